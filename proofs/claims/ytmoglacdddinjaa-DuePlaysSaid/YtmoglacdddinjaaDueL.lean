/- Plain facts on rows of what is due: order, keys, what is put in and what is taken out. No program in sight; conditions stand in each statement. -/
import Derived.Test.YtmoglacdddinjaaDue
set_option linter.unusedSimpArgs false
set_option linter.unusedVariables false
namespace Go.Proofs.Ytmoglacdddinjaa
open Go Go.Sl

def ltD (a b : Due) : Prop := a.tick < b.tick ∨ (a.tick = b.tick ∧ (a.kind < b.kind ∨ (a.kind = b.kind ∧ a.id < b.id)))
def keyD (a b : Due) : Prop := a.kind = b.kind ∧ a.id = b.id
theorem ordD_neg {a b : Due} : ordD a b < 0 ↔ ltD a b := by
  unfold ordD ltD
  simp only [orI, cmpI]
  repeat' split
  all_goals omega
theorem ltD_trans {a b c : Due} (h1 : ltD a b) (h2 : ltD b c) : ltD a c := by unfold ltD at *; omega
theorem ltD_total {a b : Due} (h1 : ¬ ltD a b) (h2 : ¬ keyD a b) : ltD b a := by unfold ltD keyD at *; omega

/-- a row as it should be: rising, and each key once -/
structure RowD (l : List Due) : Prop where
  up : l.Pairwise ltD
  once : l.Pairwise fun a b => ¬ keyD a b

theorem hasD_iff {kind id : Int} {d : Due} : hasD kind id d = true ↔ d.kind = kind ∧ d.id = id := by simp [hasD]

theorem idxOf_neg {α : Type} {p : α → Bool} {l : List α} : idxOf p l < 0 ↔ ∀ x ∈ l, p x = false := by
  constructor
  · intro h x hx
    induction l with
    | nil => cases hx
    | cons y l ih =>
      unfold idxOf at h
      split at h
      · omega
      · rename_i hp
        have h1 : idxOf p l < 0 := by
          simp only at h
          split at h
          · assumption
          · omega
        rcases List.mem_cons.1 hx with rfl | hx
        · simpa using hp
        · exact ih h1 hx
  · intro h
    have := idxOf_none (p := p) (l := l) (fun j y hj => h y (List.mem_of_getElem? hj))
    omega

theorem idxOf_get {α : Type} {p : α → Bool} : ∀ {l : List α} {i : Nat}, idxOf p l = (i : Int) → ∃ x, l[i]? = some x ∧ p x = true
  | [], i, h => by simp [idxOf] at h
  | y :: l, i, h => by
    unfold idxOf at h
    split at h
    · rename_i hp; obtain rfl : i = 0 := by omega
      exact ⟨y, rfl, hp⟩
    · simp only at h
      split at h
      · omega
      · obtain ⟨k, rfl⟩ : ∃ k, i = k + 1 := ⟨i - 1, by omega⟩
        obtain ⟨x, hx, hpx⟩ := idxOf_get (p := p) (l := l) (i := k) (by omega)
        exact ⟨x, by simpa using hx, hpx⟩

theorem take_while_all {α : Type} {p : α → Bool} : ∀ {l : List α}, ∀ x ∈ l.take (l.takeWhile p).length, p x = true
  | [], x, h => by simp at h
  | y :: l, x, h => by
    by_cases hp : p y = true
    · simp only [List.takeWhile_cons, hp, if_true, List.length_cons, List.take_succ_cons, List.mem_cons] at h
      rcases h with rfl | h
      · exact hp
      · exact take_while_all x h
    · simp [List.takeWhile_cons, hp] at h

theorem drop_while_head {α : Type} {p : α → Bool} : ∀ {l : List α} {y : α} {m : List α}, l.drop (l.takeWhile p).length = y :: m → p y = false
  | [], y, m, h => by simp at h
  | x :: l, y, m, h => by
    by_cases hp : p x = true
    · simp only [List.takeWhile_cons, hp, if_true, List.length_cons, List.drop_succ_cons] at h
      exact drop_while_head h
    · simp only [List.takeWhile_cons, hp, Bool.false_eq_true, if_false, List.length_nil, List.drop_zero] at h
      injection h with h1 h2
      subst h1
      simpa using hp

theorem RowD.mono {l : List Due} (h : RowD l) {d : Due} : ∀ (i j : Nat) x y, i ≤ j → l[i]? = some x → l[j]? = some y → ordD y d < 0 → ordD x d < 0 := by
  intro i j x y hij hx hy hd
  rw [ordD_neg] at *
  rcases Nat.lt_or_ge i j with hlt | hge
  · obtain ⟨hi, rfl⟩ := List.getElem?_eq_some_iff.1 hx
    obtain ⟨hj, rfl⟩ := List.getElem?_eq_some_iff.1 hy
    exact ltD_trans (List.pairwise_iff_getElem.1 h.up i j hi hj hlt) hd
  · obtain rfl : i = j := by omega
    rw [hx] at hy; cases hy; exact hd

theorem insD_perm (l : List Due) (d : Due) : (insD l d).Perm (d :: l) := by
  unfold insD
  rw [List.append_assoc, List.singleton_append]
  exact List.perm_middle.trans (by rw [List.take_append_drop])

theorem insD_mem {l : List Due} {d x : Due} : x ∈ insD l d ↔ x = d ∨ x ∈ l := by rw [(insD_perm l d).mem_iff]; simp

theorem insD_row {l : List Due} {d : Due} (h : RowD l) (hn : ∀ x ∈ l, ¬ keyD x d) : RowD (insD l d) := by
  constructor
  · unfold insD
    have hl : ∀ x ∈ l.take (bsN (ordD · d) l), ltD x d := fun x hx => by
      have := take_while_all (p := fun x => decide (ordD x d < 0)) (l := l) x hx
      exact ordD_neg.1 (by simpa using this)
    have hsplit : l.take (bsN (ordD · d) l) ++ l.drop (bsN (ordD · d) l) = l := List.take_append_drop _ _
    have hp := h.up
    rw [← hsplit, List.pairwise_append] at hp
    obtain ⟨p1, p2, p3⟩ := hp
    have hr : ∀ y ∈ l.drop (bsN (ordD · d) l), ltD d y := fun y hy => by
      cases hm : l.drop (bsN (ordD · d) l) with
      | nil => rw [hm] at hy; cases hy
      | cons z m =>
        have hz := drop_while_head (p := fun x => decide (ordD x d < 0)) (l := l) hm
        have hzl : z ∈ l := List.mem_of_mem_drop (by rw [hm]; simp)
        have hdz : ltD d z := ltD_total (fun e => by have := ordD_neg.2 e; simp at hz; omega) (fun e => hn z hzl e)
        rw [hm] at hy p2
        rcases List.mem_cons.1 hy with rfl | hy
        · exact hdz
        · exact ltD_trans hdz (List.rel_of_pairwise_cons p2 hy)
    rw [List.append_assoc, List.pairwise_append]
    refine ⟨p1, ?_, fun x hx y hy => ?_⟩
    · rw [List.singleton_append, List.pairwise_cons]
      exact ⟨hr, p2⟩
    · rw [List.singleton_append] at hy
      rcases List.mem_cons.1 hy with rfl | hy
      · exact hl x hx
      · exact p3 x hx y hy
  · refine ((insD_perm l d).pairwise_iff (fun {a b} hab hk => hab ⟨hk.1.symm, hk.2.symm⟩)).2 ?_
    rw [List.pairwise_cons]
    exact ⟨fun x hx hk => hn x hx ⟨hk.1.symm, hk.2.symm⟩, h.once⟩

theorem addD_row {l : List Due} {d : Due} (h : RowD l) : RowD (addD l d) := by
  unfold addD
  split
  · rename_i hi
    rw [idxOf_neg] at hi
    exact insD_row h (fun x hx hk => by have := hi x hx; simp [hasD, hk.1, hk.2] at this)
  · exact h
theorem addD_has {l : List Due} {d : Due} : ∃ x ∈ addD l d, keyD x d := by
  unfold addD
  split
  · exact ⟨d, insD_mem.2 (.inl rfl), rfl, rfl⟩
  · rename_i hi
    rw [idxOf_neg] at hi
    simp only [Classical.not_forall, Bool.not_eq_false] at hi
    obtain ⟨x, hx, hp⟩ := hi
    exact ⟨x, hx, hasD_iff.1 hp⟩
theorem addD_keep {l : List Due} {d x : Due} (hx : x ∈ l) : x ∈ addD l d := by
  unfold addD
  split
  · exact insD_mem.2 (.inr hx)
  · exact hx
theorem addD_from {l : List Due} {d x : Due} (hx : x ∈ addD l d) : x = d ∨ x ∈ l := by
  unfold addD at hx
  split at hx
  · exact insD_mem.1 hx
  · exact .inr hx
theorem addD_len {l : List Due} {d : Due} : (addD l d).length ≤ l.length + 1 ∧ l.length ≤ (addD l d).length := by
  unfold addD
  split
  · rw [insD_len]; omega
  · omega

theorem RowD.nil : RowD [] := ⟨List.Pairwise.nil, List.Pairwise.nil⟩
theorem RowD.sub {l m : List Due} (h : RowD l) (hs : m.Sublist l) : RowD m := ⟨h.up.sublist hs, h.once.sublist hs⟩

/-- one of a key is there: it is the one that is found -/
theorem has_found {l : List Due} {kind id : Int} (h : ∃ x ∈ l, x.kind = kind ∧ x.id = id) : ¬ idxOf (hasD kind id) l < 0 := fun hn => by
  rw [idxOf_neg] at hn
  obtain ⟨x, hx, hk⟩ := h
  have := hn x hx
  rw [hasD_iff.2 hk] at this
  cases this

theorem dropD_len {l : List Due} {kind id : Int} (h : ¬ idxOf (hasD kind id) l < 0) : (dropD l kind id).length = l.length - 1 := by
  have h1 := idxOf_lt (p := hasD kind id) (l := l)
  rw [dropD, if_neg h, List.length_eraseIdx, if_pos (by omega)]

theorem dropD_sub {l : List Due} {kind id : Int} : (dropD l kind id).Sublist l := by
  unfold dropD
  split
  · exact List.Sublist.refl _
  · exact List.eraseIdx_sublist _ _

theorem dropD_none {l : List Due} {kind id : Int} (h : RowD l) : ∀ x ∈ dropD l kind id, ¬ (x.kind = kind ∧ x.id = id) := by
  unfold dropD
  split
  · rename_i hi
    rw [idxOf_neg] at hi
    intro x hx hk
    have := hi x hx
    rw [hasD_iff.2 hk] at this
    cases this
  · rename_i hi
    obtain ⟨k, hk⟩ : ∃ k : Nat, idxOf (hasD kind id) l = k := ⟨(idxOf (hasD kind id) l).toNat, by omega⟩
    obtain ⟨y, hy, hpy⟩ := idxOf_get hk
    rw [hasD_iff] at hpy
    rw [hk, Int.toNat_natCast]
    intro x hx hkx
    obtain ⟨i, hxi, hge⟩ : ∃ i, l[i]? = some x ∧ i ≠ k := by
      obtain ⟨i, hi2⟩ := List.getElem?_of_mem hx
      rw [List.getElem?_eraseIdx] at hi2
      split at hi2
      · exact ⟨i, hi2, by omega⟩
      · exact ⟨i + 1, hi2, by omega⟩
    obtain ⟨hi1, rfl⟩ := List.getElem?_eq_some_iff.1 hxi
    obtain ⟨hk1, rfl⟩ := List.getElem?_eq_some_iff.1 hy
    rcases Nat.lt_or_gt_of_ne hge with hlt | hlt
    · exact List.pairwise_iff_getElem.1 h.once i k hi1 hk1 hlt ⟨hkx.1.trans hpy.1.symm, hkx.2.trans hpy.2.symm⟩
    · exact List.pairwise_iff_getElem.1 h.once k i hk1 hi1 hlt ⟨hpy.1.trans hkx.1.symm, hpy.2.trans hkx.2.symm⟩

theorem dropD_filter {kind id : Int} : ∀ {l : List Due}, l.Pairwise (fun a b => ¬ keyD a b) → l.filter (fun d => !hasD kind id d) = dropD l kind id
  | [], _ => by simp [dropD]
  | x :: l, h => by
    rw [List.pairwise_cons] at h
    have ih := dropD_filter (kind := kind) (id := id) h.2
    by_cases hx : hasD kind id x = true
    · have h0 : idxOf (hasD kind id) (x :: l) = 0 := by simp [idxOf, hx]
      have h1 : l.filter (fun d => !hasD kind id d) = l := List.filter_eq_self.2 (fun y hy => by
        cases hh : hasD kind id y
        · rfl
        · rw [hasD_iff] at hx hh
          exact absurd ⟨hx.1.trans hh.1.symm, hx.2.trans hh.2.symm⟩ (h.1 y hy))
      rw [List.filter_cons, hx]
      simp [dropD, h0, h1]
    · have hx' : hasD kind id x = false := by simpa using hx
      rw [List.filter_cons, hx', ih]
      have hge := idxOf_ge (p := hasD kind id) (l := l)
      by_cases hi : idxOf (hasD kind id) l < 0
      · have h0 : idxOf (hasD kind id) (x :: l) = -1 := by simp [idxOf, hx', hi]
        simp [dropD, h0, hi]
      · have h0 : idxOf (hasD kind id) (x :: l) = idxOf (hasD kind id) l + 1 := by simp [idxOf, hx', hi]
        have h2 : ¬ idxOf (hasD kind id) (x :: l) < 0 := by omega
        rw [dropD, dropD, if_neg hi, if_neg h2, h0, show (idxOf (hasD kind id) l + 1).toNat = (idxOf (hasD kind id) l).toNat + 1 by omega]
        simp

theorem takeN_all {l : List Due} {tick : Int} (h : ∀ x ∈ l, x.tick ≤ tick) : takeN l tick = l.length := by
  refine takeN_eq (Nat.le_refl _) (fun k y _ hy => h y (List.mem_of_getElem? hy)) (fun y hy => ?_)
  rw [List.getElem?_eq_none (Nat.le_refl _)] at hy
  cases hy
theorem takeN_tick {l : List Due} {tick : Int} {x : Due} (h : x ∈ l.take (takeN l tick)) : x.tick ≤ tick := by
  have := take_while_all (p := fun d : Due => decide (d.tick ≤ tick)) (l := l) x h
  simpa using this

/-- a number that a cell of 64 digits can hold -/
def I64 (n : Int) : Prop := -9223372036854775808 ≤ n ∧ n ≤ 9223372036854775807
def Due.ok (d : Due) : Prop := I64 d.tick ∧ I64 d.kind ∧ I64 d.id

/-- all that come are added -/
def addAll (l : List Due) (ds : List Due) : List Due := ds.foldl addD l
theorem addAll_step {l ds : List Due} {k : Nat} {d : Due} (h : ds[k]? = some d) : addAll l (ds.take (k + 1)) = addD (addAll l (ds.take k)) d := by
  rw [List.take_add_one, h]; simp [addAll, List.foldl_append]
theorem addAll_row {l ds : List Due} (h : RowD l) : RowD (addAll l ds) := by
  induction ds generalizing l with
  | nil => exact h
  | cons d ds ih => exact ih (addD_row h)
theorem addAll_len {l ds : List Due} : (addAll l ds).length ≤ l.length + ds.length := by
  induction ds generalizing l with
  | nil => simp [addAll]
  | cons d ds ih =>
    have h1 := ih (l := addD l d)
    have h2 := (addD_len (l := l) (d := d)).1
    simp only [addAll, List.foldl_cons, List.length_cons] at *
    omega
theorem addAll_keep {l ds : List Due} {x : Due} (hx : x ∈ l) : x ∈ addAll l ds := by
  induction ds generalizing l with
  | nil => exact hx
  | cons d ds ih => exact ih (addD_keep hx)
theorem addAll_has {l ds : List Due} {d : Due} (hd : d ∈ ds) : ∃ x ∈ addAll l ds, keyD x d := by
  induction ds generalizing l with
  | nil => cases hd
  | cons e ds ih =>
    rcases List.mem_cons.1 hd with rfl | hd
    · obtain ⟨x, hx, hk⟩ := addD_has (l := l) (d := d)
      exact ⟨x, addAll_keep (l := addD l d) (ds := ds) hx, hk⟩
    · exact ih hd
theorem addAll_from {l ds : List Due} {x : Due} (hx : x ∈ addAll l ds) : x ∈ l ∨ x ∈ ds := by
  induction ds generalizing l with
  | nil => exact .inl hx
  | cons d ds ih =>
    rcases ih hx with h | h
    · rcases addD_from h with rfl | h
      · exact .inr (by simp)
      · exact .inl h
    · exact .inr (List.mem_cons_of_mem _ h)
end Go.Proofs.Ytmoglacdddinjaa
