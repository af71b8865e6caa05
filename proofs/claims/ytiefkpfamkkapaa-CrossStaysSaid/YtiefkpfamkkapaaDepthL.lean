/- What so much of a side costs, in plain numbers: level by level, or order by order. No program in sight. -/
import Derived.Test.YtiefkpfamkkapaaBookP
set_option linter.unusedSimpArgs false
set_option linter.unusedVariables false
namespace Go.Proofs.Ytiefkpfamkkapaa
open Go Go.Sl

def pqO (o : Order) : Int × Int := (o.price, o.left)
def pqL (v : Lvl) : Int × Int := (v.price, v.qty)
def totL (l : List (Int × Int)) : Int := (l.map Prod.snd).sum
def costL : List (Int × Int) → Int → Int
  | [], _ => 0
  | x :: r, q => x.1 * min q x.2 + costL r (q - min q x.2)
/-- prices and quantities that may be -/
def okP (l : List (Int × Int)) : Prop := ∀ x ∈ l, 1 ≤ x.1 ∧ x.1 ≤ 1000000 ∧ 1 ≤ x.2
theorem okP.tail {x : Int × Int} {l : List (Int × Int)} (h : okP (x :: l)) : okP l := fun y hy => h y (List.mem_cons_of_mem _ hy)
theorem totL_cons (x : Int × Int) (l : List (Int × Int)) : totL (x :: l) = x.2 + totL l := by simp [totL]
theorem totL_app (a b : List (Int × Int)) : totL (a ++ b) = totL a + totL b := by simp only [totL, List.map_append]; exact sum_append _ _
theorem totL_pos {l : List (Int × Int)} (h : okP l) : 0 ≤ totL l := by
  induction l with
  | nil => simp [totL]
  | cons x l ih => rw [totL_cons]; have := (h x List.mem_cons_self).2.2; have := ih h.tail; omega
theorem costL_zero {l : List (Int × Int)} (h : okP l) : costL l 0 = 0 := by
  induction l with
  | nil => rfl
  | cons x l ih =>
    have := (h x List.mem_cons_self).2.2
    have e : min (0 : Int) x.2 = 0 := by omega
    rw [costL, e, Int.mul_zero, Int.sub_zero, ih h.tail]; rfl
theorem costL_app {a b : List (Int × Int)} (ha : okP a) : ∀ {q : Int}, 0 ≤ q → costL (a ++ b) q = costL a q + costL b (q - min q (totL a)) := by
  induction a with
  | nil => intro q hq; simp [costL, totL, Int.min_eq_right hq]
  | cons x a ih =>
    intro q hq
    have h1 := (ha x List.mem_cons_self).2.2
    have h2 := totL_pos ha.tail
    rw [List.cons_append, costL, costL, ih ha.tail (q := q - min q x.2) (by omega), totL_cons]
    have e : q - min q x.2 - min (q - min q x.2) (totL a) = q - min q (x.2 + totL a) := by omega
    rw [e]; omega
theorem costL_one (p n q : Int) : costL [(p, n)] q = p * min q n := by simp [costL]
/-- two at one price are one -/
theorem costL_two (p a b q : Int) (hq : 0 ≤ q) (ha : 0 ≤ a) (hb : 0 ≤ b) : costL [(p, a), (p, b)] q = costL [(p, a + b)] q := by
  simp only [costL, Int.add_zero]
  rw [← Int.mul_add]
  congr 1
  omega
theorem costL_bound {l : List (Int × Int)} (h : okP l) : ∀ {q : Int}, 0 ≤ q → min q (totL l) ≤ costL l q ∧ costL l q ≤ 1000000 * min q (totL l) := by
  induction l with
  | nil => intro q hq; simp [costL, totL, Int.min_eq_right hq]
  | cons x l ih =>
    intro q hq
    obtain ⟨h1, h2, h3⟩ := h x List.mem_cons_self
    have ht := totL_pos h.tail
    have := ih h.tail (q := q - min q x.2) (by omega)
    rw [costL, totL_cons]
    have m1 : min q x.2 ≤ x.1 * min q x.2 := by
      have := Int.mul_le_mul_of_nonneg_right h1 (show 0 ≤ min q x.2 by omega)
      omega
    have m2 : x.1 * min q x.2 ≤ 1000000 * min q x.2 := Int.mul_le_mul_of_nonneg_right h2 (show 0 ≤ min q x.2 by omega)
    have e : min q x.2 + min (q - min q x.2) (totL l) = min q (x.2 + totL l) := by omega
    omega
theorem costL_more {l : List (Int × Int)} (h : okP l) : ∀ {q : Int}, 0 ≤ q → q + 1 ≤ totL l → costL l q + 1 ≤ costL l (q + 1) := by
  induction l with
  | nil => intro q hq ht; simp [totL] at ht; omega
  | cons x l ih =>
    intro q hq ht
    obtain ⟨h1, h2, h3⟩ := h x List.mem_cons_self
    rw [totL_cons] at ht
    rw [costL, costL]
    by_cases hc : q + 1 ≤ x.2
    · rw [show min q x.2 = q by omega, show min (q + 1) x.2 = q + 1 by omega, show q - q = 0 by omega, show q + 1 - (q + 1) = 0 by omega, costL_zero h.tail, Int.mul_add, Int.mul_one]
      omega
    · rw [show min q x.2 = x.2 by omega, show min (q + 1) x.2 = x.2 by omega]
      have := ih h.tail (q := q - x.2) (by omega) (by omega)
      rw [show q + 1 - x.2 = q - x.2 + 1 by omega]
      omega
/-- all of it -/
theorem costL_all {l : List (Int × Int)} (h : okP l) : ∀ {q : Int}, totL l ≤ q → costL l q = (l.map fun x => x.1 * x.2).sum := by
  induction l with
  | nil => intro q hq; rfl
  | cons x l ih =>
    intro q hq
    have ht := totL_pos h.tail
    have h3 := (h x List.mem_cons_self).2.2
    rw [totL_cons] at hq
    rw [costL, show min q x.2 = x.2 by omega, ih h.tail (q := q - x.2) (by omega)]
    simp

/-! ### a side -/
def okS (o : List Order) : Prop := ∀ x ∈ o, 1 ≤ x.price ∧ x.price ≤ 1000000 ∧ 1 ≤ x.left ∧ x.left ≤ 1000000
theorem okS.pq {o : List Order} (h : okS o) : okP (o.map pqO) := fun x hx => by
  obtain ⟨y, hy, rfl⟩ := List.mem_map.1 hx
  exact ⟨(h y hy).1, (h y hy).2.1, (h y hy).2.2.1⟩
theorem addLv_eq (v : List Lvl) (o : Order) : (∃ u w, v = u ++ [w] ∧ w.price = o.price ∧ addLv v o = u ++ [⟨w.price, w.qty + o.left⟩]) ∨ addLv v o = v ++ [⟨o.price, o.left⟩] := by
  rcases List.eq_nil_or_concat v with rfl | ⟨u, w, rfl⟩
  · exact .inr rfl
  · by_cases hp : w.price = o.price
    · refine .inl ⟨u, w, by simp, hp, ?_⟩
      simp [addLv, hp]
    · refine .inr ?_
      simp [addLv, hp]
theorem okP_snoc {l : List (Int × Int)} {x : Int × Int} (h : okP l) (hx : 1 ≤ x.1 ∧ x.1 ≤ 1000000 ∧ 1 ≤ x.2) : okP (l ++ [x]) := fun y hy => by
  rcases List.mem_append.1 hy with hy | hy
  · exact h y hy
  · rw [List.mem_singleton.1 hy]; exact hx
theorem okP_left {a b : List (Int × Int)} (h : okP (a ++ b)) : okP a := fun y hy => h y (List.mem_append_left _ hy)
theorem okP_take {l : List (Int × Int)} (h : okP l) (k : Nat) : okP (l.take k) := fun y hy => h y (List.mem_of_mem_take hy)
/-- levels are what the orders are, whatever is asked for -/
theorem levels_cost {o : List Order} (h : okS o) : okP ((levelsO o).map pqL) ∧ totL ((levelsO o).map pqL) = totL (o.map pqO) ∧ ∀ q, 0 ≤ q → costL ((levelsO o).map pqL) q = costL (o.map pqO) q := by
  have key : ∀ n, ∀ o : List Order, o.length = n → okS o → okP ((levelsO o).map pqL) ∧ totL ((levelsO o).map pqL) = totL (o.map pqO) ∧ ∀ q, 0 ≤ q → costL ((levelsO o).map pqL) q = costL (o.map pqO) q := by
    intro n
    induction n with
    | zero =>
      intro o ho _
      rw [List.eq_nil_of_length_eq_zero ho]
      exact ⟨fun x hx => (by cases hx), rfl, fun _ _ => rfl⟩
    | succ n ih =>
      intro o ho hok
      rcases List.eq_nil_or_concat o with rfl | ⟨o', x, rfl⟩
      · simp at ho
      · rw [List.concat_eq_append] at hok ho ⊢
        have hx := hok x (by simp)
        have hok' : okS o' := fun y hy => hok y (List.mem_append_left _ hy)
        obtain ⟨i1, i2, i3⟩ := ih o' (by simpa using ho) hok'
        rw [levelsO_add, List.map_append, totL_app]
        have hox : List.map pqO [x] = [(x.price, x.left)] := rfl
        rcases addLv_eq (levelsO o') x with ⟨u, w, hv, hp, he⟩ | he
        · rw [he]
          rw [hv] at i1 i2 i3
          simp only [List.map_append, List.map_cons, List.map_nil] at i1 i2 i3 ⊢
          have hw := i1 (pqL w) (by simp)
          have hu := okP_left i1
          refine ⟨okP_snoc hu ⟨hw.1, hw.2.1, ?_⟩, ?_, ?_⟩
          · have := hw.2.2; simp only [pqL] at *; omega
          · rw [totL_app] at i2 ⊢
            rw [← i2]
            simp [totL, pqL, pqO]; omega
          · intro q hq
            have htu := totL_pos hu
            have := i3 q hq
            rw [costL_app hok'.pq hq, ← this, costL_app hu hq, costL_app hu hq, ← i2, totL_app]
            have e2 : totL [pqL w] = w.qty := by simp [totL, pqL]
            have hwq := hw.2.2
            simp only [pqL] at hwq
            rw [e2]
            have e3 := costL_two w.price w.qty x.left (q - min q (totL (u.map pqL))) (by omega) (by omega) (by omega)
            show _ + costL [(w.price, w.qty + x.left)] _ = _ + costL [(w.price, w.qty)] _ + costL [(x.price, x.left)] _
            rw [← e3, ← hp]
            simp only [costL, Int.add_zero]
            rw [Int.add_assoc]
            congr 3
            omega
        · rw [he]
          simp only [List.map_append, List.map_cons, List.map_nil]
          refine ⟨okP_snoc i1 ⟨hx.1, hx.2.1, hx.2.2.1⟩, ?_, ?_⟩
          · rw [totL_app, i2]; rfl
          · intro q hq
            rw [costL_app i1 hq, costL_app hok'.pq hq, i3 q hq, i2]; rfl
  exact key _ o rfl h
theorem totL_sum (o : List Order) : totL (o.map pqO) = sumL o := by simp [totL, sumL, List.map_map]; rfl
theorem totL_le {o : List Order} (h : okS o) : totL (o.map pqO) ≤ 1000000 * o.length := by
  induction o with
  | nil => simp [totL]
  | cons x o ih =>
    have hx := h x List.mem_cons_self
    have := ih (fun y hy => h y (List.mem_cons_of_mem _ hy))
    rw [List.map_cons, totL_cons, List.length_cons]
    simp only [pqO] at *
    omega
theorem okO_price {o : Order} (h : okO o = true) : 1 ≤ o.price ∧ o.price ≤ 1000000 := by
  simp only [okO, Bool.and_eq_true, decide_eq_true_eq] at h
  exact ⟨h.1.1.1.1.1.2, h.1.1.1.1.2⟩
theorem BookB.okS {l : List Order} (h : BookB l) (s : Int) : okS (sideO s l) := fun x hx => by
  have := (sideO_side hx).1
  exact ⟨(okO_price (h.ok x this)).1, (okO_price (h.ok x this)).2, (h.left x this).1, (h.left x this).2⟩
/-- all that a side has -/
def allS (s : Int) (l : List Order) : Int := totL ((sideO s l).map pqO)
theorem allS_filter (s : Int) (l : List Order) : allS s l = sumL (l.filter (isSide s)) := by rw [allS, totL_sum, sumL_perm (sideO_perm s l)]
/-- what so much of a side costs -/
def sweepS (s : Int) (l : List Order) (q : Int) : Option Nat := if q < 1 ∨ allS s l < q then none else some (costL ((sideO s l).map pqO) q).toNat
theorem allS_bd {l : List Order} (h : BookB l) (s : Int) : 0 ≤ allS s l ∧ allS s l ≤ 64000000 := by
  have h1 := totL_pos (h.okS s).pq
  have h2 := totL_le (h.okS s)
  have h3 := sideO_len s l
  have h4 := h.len
  unfold allS
  omega
end Go.Proofs.Ytiefkpfamkkapaa
