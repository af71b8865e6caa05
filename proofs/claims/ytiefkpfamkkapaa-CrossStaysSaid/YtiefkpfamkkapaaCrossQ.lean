/- What an order that comes does, in plain lists: sums, prices, whose. No program in sight. -/
import Derived.Test.YtiefkpfamkkapaaCrossK
set_option linter.unusedSimpArgs false
set_option linter.unusedVariables false
namespace Go.Proofs.Ytiefkpfamkkapaa
open Go Go.Sl

def sumQ (f : List FillR) : Int := (f.map FillR.qty).sum
theorem sumQ_app (a b : List FillR) : sumQ (a ++ b) = sumQ a + sumQ b := by simp only [sumQ, List.map_append]; exact sum_append _ _
theorem wrong_new' {how : Int} {o : Order} {l : List Order} (h : wrongV how o l = 0) : newB how o l = true := by
  cases hn : newB how o l
  · unfold wrongV at h; rw [if_pos hn] at h; omega
  · rfl
/-- what was filled, and of whom -/
structure FillF (o : Order) (f : FillR) (x : Order) : Prop where
  maker : f.maker = x.id
  taker : f.taker = o.id
  mparty : f.mparty = x.owner
  tparty : f.tparty = o.owner
  price : f.price = x.price
  left : f.left = x.left - f.qty
  qty : 1 ≤ f.qty
  own : x.owner ≠ o.owner
/-- along the way -/
structure WayX (o : Order) (l : List Order) (done : List Order) (s : XSt) : Prop where
  sum : sumQ s.fills = o.left - s.left
  left : s.left = o.left - min o.left (sumL (othersOf o done))
  mks : ∃ xs : List Order, xs.Sublist done ∧ xs.length = s.fills.length ∧ (∀ (i : Nat) f x, s.fills[i]? = some f → xs[i]? = some x → FillF o f x ∧ (f.left ≠ 0 → s.left = 0 ∧ i + 1 = s.fills.length))
  sub : ∀ y ∈ s.bk, ∃ x ∈ l, y.id = x.id ∧ y.seq = x.seq ∧ y.side = x.side ∧ y.price = x.price ∧ y.owner = x.owner
  len : s.bk.length ≤ l.length
theorem dropO_mem {id : Int} {l : List Order} {y : Order} (h : y ∈ dropO id l) : y ∈ l := (dropO_sub id l).subset h
theorem lessO_mem {id left : Int} {l : List Order} {y : Order} (h : y ∈ lessO id left l) : ∃ x ∈ l, y.id = x.id ∧ y.seq = x.seq ∧ y.side = x.side ∧ y.price = x.price ∧ y.owner = x.owner := by
  unfold lessO at h
  split at h
  · exact ⟨y, h, rfl, rfl, rfl, rfl, rfl⟩
  · rename_i x hx
    split at h
    · rcases List.mem_or_eq_of_mem_set h with h | h
      · exact ⟨y, h, rfl, rfl, rfl, rfl, rfl⟩
      · exact ⟨x, List.mem_of_find?_eq_some hx, by rw [h], by rw [h], by rw [h], by rw [h], by rw [h]⟩
    · exact ⟨y, h, rfl, rfl, rfl, rfl, rfl⟩
theorem lessO_len (id left : Int) (l : List Order) : (lessO id left l).length = l.length := by
  unfold lessO
  split
  · rfl
  · split
    · simp
    · rfl
theorem othersOf_app (o : Order) (a : List Order) (x : Order) : sumL (othersOf o (a ++ [x])) = sumL (othersOf o a) + if x.owner = o.owner then 0 else x.left := by
  unfold othersOf
  rw [List.filter_append, sumL_append]
  by_cases h : x.owner = o.owner <;> simp [h, sumL]
theorem way_start (o : Order) (l : List Order) (ho : 0 ≤ o.left) : WayX o l [] ⟨o.left, l, [], []⟩ where
  sum := by simp [sumQ]
  left := by simp [othersOf, sumL]; omega
  mks := ⟨[], List.Sublist.refl _, rfl, fun i f x h => by simp at h⟩
  sub := fun y hy => ⟨y, hy, rfl, rfl, rfl, rfl, rfl⟩
  len := Nat.le_refl _
theorem way_step {o : Order} {l done : List Order} {s : XSt} {x : Order} (h : WayX o l done s) (hd : ∀ y ∈ done, 1 ≤ y.left) (hx : 1 ≤ x.left) (hl : 0 ≤ s.left) (ho : 0 ≤ o.left) : WayX o l (done ++ [x]) (stepX o s x) := by
  have hpos : 0 ≤ sumL (othersOf o done) := by
    have key : ∀ m : List Order, (∀ y ∈ m, 1 ≤ y.left) → 0 ≤ sumL m := by
      intro m
      induction m with
      | nil => intro _; simp [sumL]
      | cons y m ih => intro hm; have := hm y List.mem_cons_self; have := ih (fun z hz => hm z (List.mem_cons_of_mem _ hz)); simp only [sumL, List.map_cons, List.sum_cons] at *; omega
    exact key _ (fun y hy => hd y (List.mem_filter.1 hy).1)
  have hs := h.sum
  have hle := h.left
  obtain ⟨xs, hx1, hx2, hx3⟩ := h.mks
  have hsum := othersOf_app o done x
  unfold stepX
  split
  · rename_i h0
    refine ⟨hs, ?_, ⟨xs, hx1.trans (List.sublist_append_left _ _), hx2, hx3⟩, h.sub, h.len⟩
    rw [hsum]; split <;> omega
  · rename_i h0
    split
    · rename_i hown
      refine ⟨hs, ?_, ⟨xs, hx1.trans (List.sublist_append_left _ _), hx2, ?_⟩, fun y hy => h.sub y (dropO_mem hy), Nat.le_trans (dropO_sub _ _).length_le h.len⟩
      · rw [hsum, if_pos hown]; dsimp only; omega
      · exact hx3
    · rename_i hown
      refine ⟨?_, ?_, ⟨xs ++ [x], hx1.append (List.Sublist.refl _), by simp [hx2], ?_⟩, ?_, ?_⟩
      · rw [sumQ_app]; dsimp only; simp only [sumQ, List.map_cons, List.map_nil, List.sum_cons, List.sum_nil] at hs ⊢; omega
      · rw [hsum, if_neg hown]; dsimp only; omega
      · intro i f y hf hy
        dsimp only at hf ⊢
        rcases Nat.lt_trichotomy i s.fills.length with hi | hi | hi
        · rw [List.getElem?_append_left hi] at hf
          rw [List.getElem?_append_left (by omega)] at hy
          obtain ⟨k1, k2⟩ := hx3 i f y hf hy
          exact ⟨k1, fun hne => absurd (k2 hne).1 h0⟩
        · subst hi
          rw [List.getElem?_append_right (Nat.le_refl _), Nat.sub_self] at hf
          rw [← hx2, List.getElem?_append_right (Nat.le_refl _), Nat.sub_self] at hy
          simp only [List.getElem?_cons_zero, Option.some.injEq] at hf hy
          subst hf hy
          refine ⟨⟨rfl, rfl, rfl, rfl, rfl, rfl, by dsimp only; omega, hown⟩, fun hne => ?_⟩
          dsimp only at hne ⊢
          refine ⟨by omega, by simp⟩
        · rw [List.getElem?_eq_none (by simp; omega)] at hf; cases hf
      · dsimp only
        intro y hy
        split at hy
        · exact h.sub y (dropO_mem hy)
        · obtain ⟨z, hz, e1, e2, e3, e4, e5⟩ := lessO_mem hy
          obtain ⟨x', hx', k1, k2, k3, k4, k5⟩ := h.sub z hz
          exact ⟨x', hx', by rw [e1, k1], by rw [e2, k2], by rw [e3, k3], by rw [e4, k4], by rw [e5, k5]⟩
      · dsimp only
        split
        · exact Nat.le_trans (dropO_sub _ _).length_le h.len
        · rw [lessO_len]; exact h.len
theorem way_run {o : Order} {l ms : List Order} (hm : ∀ y ∈ ms, 1 ≤ y.left) (ho : 0 ≤ o.left) : WayX o l ms (runX o l ms) := by
  have key : ∀ k, k ≤ ms.length → WayX o l (ms.take k) (runX o l (ms.take k)) := by
    intro k
    induction k with
    | zero => intro _; exact way_start o l ho
    | succ k ih =>
      intro hk
      obtain ⟨x, hx⟩ : ∃ x, ms[k]? = some x := ⟨ms[k]'(by omega), List.getElem?_eq_getElem (by omega)⟩
      have h1 := ih (by omega)
      have h2 := (runX_facts (o := o) (l := l) hm ho k (by omega)).1
      rw [runX_step hx, List.take_add_one, hx]
      exact way_step h1 (fun y hy => hm y (List.mem_of_mem_take hy)) (hm x (List.mem_of_getElem? hx)) h2 ho
  have := key ms.length (Nat.le_refl _)
  rw [List.take_length] at this
  exact this
/-- an order that may come, all of it -/
theorem doV_way {how : Int} {o : Order} {l : List Order} (hB : BookB l) (h0 : wrongV how o l = 0) : WayX o l (meetsO how o l) (runX o l (meetsO how o l)) ∧ (doV how o l).fills = (runX o l (meetsO how o l)).fills ∧ (doV how o l).left = (runX o l (meetsO how o l)).left ∧ (doV how o l).err = 0 := by
  have hol := newB_left (wrong_new' h0)
  refine ⟨way_run (fun y hy => (hB.left y (meets_mem hy).1).1) (by omega), ?_⟩
  unfold doV
  rw [if_pos h0]
  exact ⟨rfl, rfl, rfl⟩
theorem doV_lens' {how : Int} {o : Order} {l : List Order} (hB : BookB l) : (doV how o l).fills.length ≤ 64 ∧ (doV how o l).gones.length ≤ 64 := by
  unfold doV
  split
  · rename_i h0
    have hol := newB_left (wrong_new' h0)
    have hml := meets_len how o l
    have hbl := hB.len
    have := runX_facts (o := o) (l := l) (ms := meetsO how o l) (fun x hx => (hB.left x (meets_mem hx).1).1) (by omega) (meetsO how o l).length (Nat.le_refl _)
    rw [List.take_length] at this
    dsimp only
    omega
  · simp
theorem doV_bad {how : Int} {o : Order} {l : List Order} (h0 : wrongV how o l ≠ 0) : doV how o l = ⟨[], [], 0, wrongV how o l, l⟩ := by unfold doV; rw [if_neg h0]
/-- the one of an id -/
theorem getO_mem {l : List Order} (hu : l.Pairwise fun a b => a.id ≠ b.id) {x : Order} (hx : x ∈ l) : getO x.id l = some x := by
  rcases find_at (p := hasO x.id) l with ⟨hi, hf⟩ | ⟨i, y, hi, hy, hp, hf⟩
  · have := idxOf_neg'.1 (show idxOf (hasO x.id) l < 0 by omega) x hx
    simp [hasO] at this
  · have hyi : y.id = x.id := by simpa [hasO] using hp
    have hyx : y = x := by
      obtain ⟨j, hj⟩ := List.getElem?_of_mem hx
      obtain ⟨hil, hie⟩ := List.getElem?_eq_some_iff.1 hy
      obtain ⟨hjl, hje⟩ := List.getElem?_eq_some_iff.1 hj
      rcases Nat.lt_trichotomy i j with h | h | h
      · have := List.pairwise_iff_getElem.1 hu i j hil hjl h
        rw [hie, hje] at this; exact absurd hyi this
      · subst h; rw [hie] at hje; exact hje
      · have := List.pairwise_iff_getElem.1 hu j i hjl hil h
        rw [hie, hje] at this; exact absurd hyi.symm this
    rw [← hyx]; exact (show getO y.id l = some y by rw [hyi]; exact hf)
end Go.Proofs.Ytiefkpfamkkapaa
