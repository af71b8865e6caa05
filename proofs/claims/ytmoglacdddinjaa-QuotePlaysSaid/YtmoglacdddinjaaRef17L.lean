/- Plain laws on quotes: the document's row as they came, the program's by number. No program in sight; conditions stand in each statement. -/
import Derived.Test.YtmoglacdddinjaaRef17
set_option linter.unusedSimpArgs false
set_option linter.unusedVariables false
namespace Go.Proofs.Ytmoglacdddinjaa
open Go Go.Sl

theorem TabQ.uq {l : List Quote} (h : upQ l) : uqQ l := h.imp (fun {a b} hab => by omega)
theorem uq_perm {l r : List Quote} (hp : r.Perm l) (h : uqQ l) : uqQ r := (hp.pairwise_iff (fun {a b} hab e => hab e.symm)).2 h
/-- found by number: the same one in any order -/
theorem find_perm {l r : List Quote} (hp : r.Perm l) (hu : uqQ l) (id : Int) : r.find? (hasI id) = l.find? (hasI id) := by
  have key : ∀ {l r : List Quote}, r.Perm l → uqQ l → ∀ x, l.find? (hasI id) = some x → r.find? (hasI id) = some x := by
    intro l r hp hu x hx
    have hxl := List.mem_of_find?_eq_some hx
    have hxp := List.find?_some hx
    cases hr : r.find? (hasI id) with
    | none =>
      rw [List.find?_eq_none] at hr
      exact absurd hxp (hr x (hp.mem_iff.2 hxl))
    | some y =>
      have hyr := List.mem_of_find?_eq_some hr
      have hyp := List.find?_some hr
      have hyl := hp.mem_iff.1 hyr
      by_cases hxy : x = y
      · rw [hxy]
      · exfalso
        have : ∀ a ∈ l, ∀ b ∈ l, a ≠ b → a.id ≠ b.id := by
          intro a ha b hb hab
          obtain ⟨i, hi⟩ := List.getElem?_of_mem ha
          obtain ⟨j, hj⟩ := List.getElem?_of_mem hb
          obtain ⟨hil, hie⟩ := List.getElem?_eq_some_iff.1 hi
          obtain ⟨hjl, hje⟩ := List.getElem?_eq_some_iff.1 hj
          rcases Nat.lt_trichotomy i j with h | h | h
          · have := List.pairwise_iff_getElem.1 hu i j hil hjl h
            rw [hie, hje] at this; exact this
          · subst h; rw [hie] at hje; exact absurd hje hab
          · have := List.pairwise_iff_getElem.1 hu j i hjl hil h
            rw [hie, hje] at this; exact fun e => this e.symm
        have h2 := this x hxl y hyl hxy
        simp only [hasI, beq_iff_eq] at hxp hyp
        omega
  cases hl : l.find? (hasI id) with
  | some x => exact key hp hu x hl
  | none =>
    cases hr : r.find? (hasI id) with
    | none => rfl
    | some y =>
      have := key hp.symm (uq_perm hp hu) y hr
      rw [hl] at this; cases this
theorem getQ_find {l : List Quote} (hup : upQ l) (id : Int) : getQ id l = l.find? (hasI id) := by
  cases hB : bsB (cQ id) l
  · rw [getQ_none hB]
    symm
    rw [List.find?_eq_none]
    intro x hx
    have := bsB_false hup hB x hx
    simp [hasI, this]
  · obtain ⟨x, hx, hid, hg⟩ := getQ_some hB
    rw [hg]
    symm
    rw [List.find?_eq_some_iff_getElem]
    obtain ⟨hlt, hxe⟩ := List.getElem?_eq_some_iff.1 hx
    refine ⟨by simp [hasI, hid], _, hlt, hxe, fun j hj => ?_⟩
    have := List.pairwise_iff_getElem.1 hup j (bsN (cQ id) l) (by omega) hlt hj
    rw [hxe] at this
    simp [hasI]; omega

/-- the program's killing, told as the document's -/
theorem killQ_map {l : List Quote} (hup : upQ l) (id : Int) : killQ id l = killR id l := by
  unfold killQ
  rw [getQ_find hup]
  cases hf : l.find? (hasI id) with
  | none => rw [killR_none hf]
  | some x =>
    dsimp only
    have hg : getQ id l = some x := by rw [getQ_find hup, hf]
    cases hB : bsB (cQ id) l
    · rw [getQ_none hB] at hg; cases hg
    · obtain ⟨y, hy, hid, hgy⟩ := getQ_some hB
      rw [hg] at hgy; cases hgy
      have hp : hasI id x = true := by simp [hasI, hid]
      rw [killR_some (TabQ.uq hup) hy hp]; rfl
theorem killR_perm {l r : List Quote} (hp : r.Perm l) (id : Int) : (killR id r).Perm (killR id l) := hp.map _
theorem killR_ids {id : Int} {l : List Quote} : (killR id l).map Quote.id = l.map Quote.id := by
  unfold killR
  rw [List.map_map]
  exact List.map_congr_left (fun x _ => by simp only [Function.comp]; split <;> rfl)
theorem upQ_ids {l m : List Quote} (h : upQ l) (he : m.map Quote.id = l.map Quote.id) : upQ m := by
  unfold upQ at *
  rw [← List.pairwise_map (f := Quote.id) (R := (· < ·))] at h ⊢
  rw [he]; exact h
theorem killR_tab {id : Int} {l : List Quote} (h : TabQ l) : TabQ (killR id l) := by
  refine ⟨upQ_ids h.up killR_ids, ?_⟩
  unfold oneQ killR
  rw [List.pairwise_map]
  refine h.one.imp (fun {a b} hab ha hb => ?_)
  have e1 : ∀ x : Quote, (if hasI id x then deadQ x else x).live = true → x.live = true ∧ (if hasI id x then deadQ x else x) = x := by
    intro x hx
    split at hx
    · cases hx
    · rename_i hn; exact ⟨hx, by rw [if_neg hn]⟩
  rw [(e1 a ha).2, (e1 b hb).2]
  exact hab (e1 a ha).1 (e1 b hb).1

/-- what the two tables have to do with each other -/
structure PairQ (l r : List Quote) : Prop where
  tab : TabQ l
  perm : r.Perm l
  pos : ∀ x ∈ l, 1 ≤ x.id

theorem PairQ.uq {l r : List Quote} (h : PairQ l r) : uqQ r := uq_perm h.perm (TabQ.uq h.tab.up)
theorem PairQ.kill {l r : List Quote} (h : PairQ l r) (id : Int) : PairQ (killQ id l) (killR id r) := by
  rw [killQ_map h.tab.up]
  refine ⟨killR_tab h.tab, killR_perm h.perm id, fun x hx => ?_⟩
  obtain ⟨y, hy, rfl⟩ := List.mem_map.1 hx
  have := h.pos y hy
  split <;> simp_all [deadQ]
theorem PairQ.find {l r : List Quote} (h : PairQ l r) (id : Int) : r.find? (hasI id) = getQ id l := by
  rw [find_perm h.perm (TabQ.uq h.tab.up), getQ_find h.tab.up]
theorem PairQ.pullE {l r : List Quote} (h : PairQ l r) (id dealer : Int) : pullR id dealer r = pullE id dealer l := by
  unfold pullR Go.Proofs.Ytmoglacdddinjaa.pullE
  rw [h.find]
  cases getQ id l with
  | none => rfl
  | some x => dsimp only
theorem PairQ.pull {l r : List Quote} (h : PairQ l r) (id dealer : Int) : PairQ (pullQ id dealer l) (pullRl id dealer r) := by
  unfold pullQ pullRl
  rw [h.pullE]
  by_cases h0 : Go.Proofs.Ytmoglacdddinjaa.pullE id dealer l = 0
  · rw [if_pos (.inl h0), if_pos h0]; exact h.kill id
  · rw [if_neg h0]
    by_cases h1 : Go.Proofs.Ytmoglacdddinjaa.pullE id dealer l = 12
    · rw [if_pos (.inr h1)]
      have : killQ id l = l := by
        rw [killQ_map h.tab.up]
        unfold Go.Proofs.Ytmoglacdddinjaa.pullE at h1
        have hg := getQ_find h.tab.up id
        cases hgx : getQ id l with
        | none => rw [hgx] at h1; simp at h1
        | some x =>
          rw [hgx] at h1 hg
          dsimp only at h1
          rcases find_idx (p := hasI id) l with ⟨_, hf⟩ | ⟨i, y, _, hy, hp, hf⟩
          · rw [hf] at hg; cases hg
          · rw [hf] at hg; cases hg
            refine killR_dead (TabQ.uq h.tab.up) hy hp ?_
            split at h1
            · split at h1
              · omega
              · rename_i hn; simpa using hn
            · omega
      rw [this]; exact h
    · rw [if_neg (by omega)]; exact h

/-! ### put -/
def badR (q : Quote) (r : List Quote) : Bool := (r.find? (hasI q.id)).isSome || decide (q.id < 1) || decide (q.ask < 1) || decide (q.price < 1) || decide (q.dealer < 0) || !q.live
def putRl (q : Quote) (r : List Quote) : List Quote := if badR q r then r else killR (oldQ q r) r ++ [q]
def putRV (q : Quote) (r : List Quote) : Value := if badR q r then .tuple #[.int .i64 0, .int .i64 1] else .tuple #[.int .i64 (oldQ q r), .int .i64 0]
theorem PairQ.bad {l r : List Quote} (h : PairQ l r) (q : Quote) : badR q r = badQ q l := by
  unfold badR badQ
  rw [h.find]
  congr 5
  cases hB : bsB (cQ q.id) l
  · rw [getQ_none hB]; rfl
  · obtain ⟨x, _, _, hg⟩ := getQ_some hB
    rw [hg]; rfl
/-- of one ask and one dealer one is live at most: so the last one that is met is the one -/
theorem oldQ_is {q : Quote} : ∀ {r : List Quote}, r.Pairwise (fun a b => ¬ (metQ q a = true ∧ metQ q b = true)) → ∀ o : Int, (r.foldl (fun o x => if metQ q x then x.id else o) o = o ∧ ∀ x ∈ r, metQ q x = false) ∨ (∃ x ∈ r, metQ q x = true ∧ r.foldl (fun o x => if metQ q x then x.id else o) o = x.id ∧ ∀ y ∈ r, metQ q y = true → y = x)
  | [], _, o => .inl ⟨rfl, fun x hx => by cases hx⟩
  | a :: r, h, o => by
    rw [List.pairwise_cons] at h
    rw [List.foldl_cons]
    cases ha : metQ q a
    · simp only [Bool.false_eq_true, if_false]
      rcases oldQ_is h.2 o with ⟨h1, h2⟩ | ⟨x, hx, hm, h1, h2⟩
      · exact .inl ⟨h1, fun x hx => by
          rcases List.mem_cons.1 hx with rfl | hx
          · exact ha
          · exact h2 x hx⟩
      · exact .inr ⟨x, List.mem_cons_of_mem _ hx, hm, h1, fun y hy hym => by
          rcases List.mem_cons.1 hy with rfl | hy
          · rw [ha] at hym; cases hym
          · exact h2 y hy hym⟩
    · simp only [if_true]
      have hno : ∀ x ∈ r, metQ q x = false := fun x hx => by
        cases hx2 : metQ q x
        · rfl
        · exact absurd ⟨ha, hx2⟩ (h.1 x hx)
      rcases oldQ_is h.2 a.id with ⟨h1, h2⟩ | ⟨x, hx, hm, h1, h2⟩
      · exact .inr ⟨a, List.mem_cons_self, ha, h1, fun y hy hym => by
          rcases List.mem_cons.1 hy with rfl | hy
          · rfl
          · rw [hno y hy] at hym; cases hym⟩
      · rw [hno x hx] at hm; cases hm
theorem oneQ_met {q : Quote} {l : List Quote} (h : oneQ l) : l.Pairwise (fun a b => ¬ (metQ q a = true ∧ metQ q b = true)) := by
  refine h.imp (fun {a b} hab hm => ?_)
  simp only [metQ, Bool.and_eq_true, beq_iff_eq] at hm
  obtain ⟨⟨⟨a1, a2⟩, a3⟩, ⟨b1, b2⟩, b3⟩ := hm
  exact hab a3 b3 ⟨a1.trans b1.symm, a2.trans b2.symm⟩
theorem one_perm {q : Quote} {l r : List Quote} (hp : r.Perm l) (h : oneQ l) : r.Pairwise (fun a b => ¬ (metQ q a = true ∧ metQ q b = true)) :=
  (hp.pairwise_iff (fun {a b} hab hm => hab ⟨hm.2, hm.1⟩)).2 (oneQ_met h)
theorem PairQ.old {l r : List Quote} (h : PairQ l r) (q : Quote) : oldQ q r = oldQ q l := by
  unfold oldQ
  rcases oldQ_is (one_perm (q := q) h.perm h.tab.one) 0 with ⟨h1, h2⟩ | ⟨x, hx, hm, h1, h2⟩
  · rcases oldQ_is (oneQ_met (q := q) h.tab.one) 0 with ⟨k1, k2⟩ | ⟨y, hy, hym, k1, k2⟩
    · rw [h1, k1]
    · rw [h2 y (h.perm.mem_iff.2 hy)] at hym; cases hym
  · rcases oldQ_is (oneQ_met (q := q) h.tab.one) 0 with ⟨k1, k2⟩ | ⟨y, hy, hym, k1, k2⟩
    · rw [k2 x (h.perm.mem_iff.1 hx)] at hm; cases hm
    · rw [h1, k1, h2 y (h.perm.mem_iff.2 hy) hym]
theorem PairQ.off {l r : List Quote} (h : PairQ l r) (q : Quote) : killR (oldQ q r) r = r.map (offQ q) := by
  unfold killR
  refine List.map_congr_left (fun x hx => ?_)
  unfold oldQ
  have hpos := fun y (hy : y ∈ r) => h.pos y (h.perm.mem_iff.1 hy)
  rcases oldQ_is (one_perm (q := q) h.perm h.tab.one) 0 with ⟨h1, h2⟩ | ⟨y, hy, hm, h1, h2⟩
  · rw [h1]
    have := hpos x hx
    rw [if_neg (by simp [hasI]; omega), offQ, h2 x hx]; rfl
  · rw [h1]
    by_cases hxy : x = y
    · subst hxy
      rw [if_pos (by simp [hasI]), offQ, hm]; rfl
    · have hne : x.id ≠ y.id := by
        obtain ⟨i, hi⟩ := List.getElem?_of_mem hx
        obtain ⟨j, hj⟩ := List.getElem?_of_mem hy
        obtain ⟨hil, hie⟩ := List.getElem?_eq_some_iff.1 hi
        obtain ⟨hjl, hje⟩ := List.getElem?_eq_some_iff.1 hj
        rcases Nat.lt_trichotomy i j with h' | h' | h'
        · have := List.pairwise_iff_getElem.1 h.uq i j hil hjl h'
          rw [hie, hje] at this; exact this
        · subst h'; rw [hie] at hje; exact absurd hje hxy
        · have := List.pairwise_iff_getElem.1 h.uq j i hjl hil h'
          rw [hie, hje] at this; exact fun e => this e.symm
      rw [if_neg (by simp [hasI]; exact hne), offQ]
      have : metQ q x = false := by
        cases hmx : metQ q x
        · rfl
        · exact absurd (h2 x hx hmx) hxy
      rw [this]; rfl
theorem PairQ.put {l r : List Quote} (h : PairQ l r) (q : Quote) : PairQ (putQ q l) (putRl q r) := by
  refine ⟨putQ_tab h.tab, ?_, ?_⟩
  · unfold putQ putRl
    rw [h.bad]
    split
    · exact h.perm
    · rw [h.off]
      have h1 := ins_perm (l.map (offQ q)) q (bsN (cQ q.id) l)
      have h2 : (r.map (offQ q) ++ [q]).Perm (q :: r.map (offQ q)) := List.perm_append_comm
      exact h2.trans ((List.Perm.cons q (h.perm.map _)).trans h1.symm)
  · unfold putQ
    split
    · exact h.pos
    · rename_i hb
      have hbad : badQ q l = false := by simpa using hb
      simp only [badQ, Bool.or_eq_false_iff, decide_eq_false_iff_not] at hbad
      intro x hx
      have hx2 := (ins_perm (l.map (offQ q)) q (bsN (cQ q.id) l)).mem_iff.1 hx
      rcases List.mem_cons.1 hx2 with rfl | hx2
      · omega
      · obtain ⟨y, hy, rfl⟩ := List.mem_map.1 hx2
        rw [offQ_id]; exact h.pos y hy
theorem PairQ.putV {l r : List Quote} (h : PairQ l r) (q : Quote) : putRV q r = putV q l := by
  unfold putRV Go.Proofs.Ytmoglacdddinjaa.putV
  rw [h.bad, h.old]

/-! ### by number -/
def insR (out : List Quote) (q : Quote) : List Quote := out.take (bsN (cQ q.id) out) ++ [q] ++ out.drop (bsN (cQ q.id) out)
def sortR (l : List Quote) : List Quote := l.foldl insR []
theorem sort_perm : ∀ (l out : List Quote), (l.foldl insR out).Perm (l ++ out)
  | [], out => List.Perm.refl _
  | x :: l, out => by
    rw [List.foldl_cons]
    refine (sort_perm l (insR out x)).trans ?_
    have := ins_perm out x (bsN (cQ x.id) out)
    exact (List.Perm.append_left l this).trans List.perm_middle
theorem sort_up : ∀ (l out : List Quote), uqQ (l ++ out) → upQ out → upQ (l.foldl insR out)
  | [], out, _, h => h
  | x :: l, out, hu, h => by
    rw [List.foldl_cons]
    have hu2 : uqQ (l ++ insR out x) := by
      have hp : (x :: l ++ out).Perm (l ++ insR out x) := by
        have := ins_perm out x (bsN (cQ x.id) out)
        exact (List.perm_middle.symm.trans (List.Perm.append_left l this.symm))
      exact uq_perm hp.symm hu
    refine sort_up l (insR out x) hu2 ?_
    refine ins_up (f := Quote.id) h (fun y hy => ?_) (by
      unfold bsN
      congr 2
      funext y
      exact decide_eq_decide.2 cQ_neg)
    have hu3 : uqQ (x :: (l ++ out)) := hu
    unfold uqQ at hu3
    rw [List.pairwise_cons] at hu3
    exact fun e => hu3.1 y (List.mem_append_right _ hy) e.symm
theorem up_eq : ∀ {a b : List Quote}, upQ a → upQ b → a.Perm b → a = b
  | [], b, _, _, hp => by rw [List.nil_perm.1 hp]
  | x :: a, [], _, _, hp => by have := hp.length_eq; simp at this
  | x :: a, y :: b, ha, hb, hp => by
    unfold upQ at ha hb
    rw [List.pairwise_cons] at ha hb
    have hxy : x = y := by
      have hx := hp.mem_iff.1 (List.mem_cons_self (a := x) (l := a))
      have hy := hp.mem_iff.2 (List.mem_cons_self (a := y) (l := b))
      rcases List.mem_cons.1 hx with h | h
      · exact h
      · rcases List.mem_cons.1 hy with h' | h'
        · exact h'.symm
        · have h1 := hb.1 x h
          have h2 := ha.1 y h'
          omega
    subst hxy
    rw [up_eq ha.2 hb.2 (List.Perm.cons_inv hp)]
theorem PairQ.sorted {l r : List Quote} (h : PairQ l r) (p : Quote → Bool) : sortR (r.filter p) = l.filter p := by
  have hu : uqQ (r.filter p ++ []) := by
    rw [List.append_nil]
    exact h.uq.sublist (List.filter_sublist)
  refine up_eq (sort_up _ [] hu List.Pairwise.nil) (h.tab.up.sublist List.filter_sublist) ?_
  have := sort_perm (r.filter p) []
  rw [List.append_nil] at this
  exact this.trans (h.perm.filter p)
theorem PairQ.clear {l r : List Quote} (h : PairQ l r) (p : Quote → Bool) : PairQ (l.filter p) (r.filter p) :=
  ⟨⟨h.tab.up.sublist List.filter_sublist, h.tab.one.sublist List.filter_sublist⟩, h.perm.filter p, fun x hx => h.pos x (List.mem_filter.1 hx).1⟩
theorem PairQ.nil : PairQ [] [] := ⟨⟨List.Pairwise.nil, List.Pairwise.nil⟩, List.Perm.refl _, fun x hx => by cases hx⟩
end Go.Proofs.Ytmoglacdddinjaa
