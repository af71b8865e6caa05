/- How much would trade: along the side, or over the whole book. No program in sight. -/
import Derived.Test.YtiefkpfamkkapaaCrossL
set_option linter.unusedSimpArgs false
set_option linter.unusedVariables false
namespace Go.Proofs.Ytiefkpfamkkapaa
open Go Go.Sl

theorem tw_filter {α : Type} {R : α → α → Prop} {p : α → Bool} (hm : ∀ x y, R x y → p y = true → p x = true) : ∀ {l : List α}, l.Pairwise R → l.takeWhile p = l.filter p
  | [], _ => rfl
  | x :: l, h => by
    rw [List.pairwise_cons] at h
    cases hp : p x
    · rw [List.takeWhile_cons, List.filter_cons, hp]
      have : l.filter p = [] := by
        rw [List.filter_eq_nil_iff]
        intro y hy hpy
        rw [hm x y (h.1 y hy) hpy] at hp; cases hp
      simp [this]
    · rw [List.takeWhile_cons, List.filter_cons, hp, if_pos rfl, if_pos rfl, tw_filter hm h.2]
theorem idx_tw {α : Type} {p : α → Bool} : ∀ {l : List α}, (idxOf (fun x => !p x) l < 0 → l.takeWhile p = l) ∧ (∀ i : Nat, idxOf (fun x => !p x) l = i → l.takeWhile p = l.take i ∧ i ≤ l.length)
  | [] => ⟨fun _ => rfl, fun i h => by simp [idxOf] at h⟩
  | x :: l => by
    obtain ⟨h1, h2⟩ := idx_tw (p := p) (l := l)
    cases hp : p x
    · refine ⟨fun h => ?_, fun i h => ?_⟩
      · simp [idxOf, hp] at h
      · simp [idxOf, hp] at h
        obtain rfl : i = 0 := by omega
        simp [List.takeWhile_cons, hp]
    · refine ⟨fun h => ?_, fun i h => ?_⟩
      · have : idxOf (fun x => !p x) l < 0 := by
          simp only [idxOf, hp, Bool.not_true, Bool.false_eq_true, if_false] at h
          split at h
          · assumption
          · omega
        rw [List.takeWhile_cons, hp, if_pos rfl, h1 this]
      · simp only [idxOf, hp, Bool.not_true, Bool.false_eq_true, if_false] at h
        split at h
        · omega
        · obtain ⟨j, rfl⟩ : ∃ j, i = j + 1 := ⟨i - 1, by omega⟩
          obtain ⟨k1, k2⟩ := h2 j (by omega)
          rw [List.takeWhile_cons, hp, if_pos rfl, k1]
          exact ⟨rfl, by simp; omega⟩
theorem takes_mono {how : Int} {o : Order} (hs : isB o.side = true) (x y : Order) (h : aheadS (otherB o.side) x y = true) (hy : takesB how o y = true) : takesB how o x = true := by
  unfold takesB at *
  by_cases hh : how = 4
  · simp [hh]
  · rcases isB_two hs with e | e
    · simp [e, otherB, isB, betterB, hh, aheadS] at *
      split at h <;> simp_all <;> omega
    · simp [e, otherB, isB, betterB, hh, aheadS] at *
      split at h <;> simp_all <;> omega
theorem meets_filter {how : Int} {o : Order} {l : List Order} (hs : isB o.side = true) (h : BookB l) : meetsO how o l = (sideO (otherB o.side) l).filter (takesB how o) := by
  have ho : isB (otherB o.side) = true := by rcases isB_two hs with h | h <;> simp [otherB, isB, h]
  exact tw_filter (fun x y hxy hy => takes_mono hs x y hxy hy) (sideO_up ho h.seq)
/-- does an order meet one of the book, as the document asks it -/
def meetsB (how : Int) (o m : Order) : Bool := m.side == otherB o.side && takesB how o m
def wouldB (how : Int) (o m : Order) : Bool := meetsB how o m && !(m.owner == o.owner)
theorem would_sum {how : Int} {o : Order} {l : List Order} (hs : isB o.side = true) (h : BookB l) : sumL (othersOf o (meetsO how o l)) = sumL (l.filter (wouldB how o)) := by
  rw [meets_filter hs h]
  unfold othersOf
  have h1 := ((sideO_perm (otherB o.side) l).filter (takesB how o)).filter (fun x => !(x.owner == o.owner))
  rw [sumL_perm h1, List.filter_filter, List.filter_filter]
  congr 1
  apply List.filter_congr
  intro x _
  simp only [wouldB, meetsB, isSide]
  cases x.side == otherB o.side <;> cases takesB how o x <;> cases x.owner == o.owner <;> rfl
theorem would_is {how : Int} {o : Order} {l : List Order} (hs : isB o.side = true) (h : BookB l) : wouldV how o l = min (sumL (l.filter (wouldB how o))) (max o.left 0) := by
  have hn := (sumL_bd (l := l.filter (wouldB how o)) (fun x hx => h.left x (List.mem_filter.1 hx).1)).1
  unfold wouldV
  rw [if_pos hs, would_sum hs h]
  omega
theorem shrink_own {W w : World} {h : List Chunk} {A : Option Addr} {n c k m : Nat} {e : TypeId} {cs : List Value} (hw : Rep W (.own A n c e k cs :: h) w) (hm : m ≤ n) : Rep W (.own A m c e k (cs.take (m * k)) :: h) w := by
  have ho := hw.ownF mem0
  rcases Nat.eq_zero_or_pos n with h0 | h0
  · subst h0
    obtain rfl : m = 0 := by omega
    have : cs = [] := List.eq_nil_of_length_eq_zero (by rw [ho.len]; simp)
    subst this; simpa using hw
  · obtain ⟨g, rfl⟩ := ho.at_ h0
    obtain ⟨cur, h1, h2, h3, h4, h5, h6, h7⟩ := hw.open_
    have hmk : m * k ≤ n * k := Nat.mul_le_mul_right k hm
    refine h7.shut_ h1 ?_ ?_ (by omega) h4 (fun v hv => h6 v (List.mem_of_mem_take hv))
    · rw [← h2, List.take_take, Nat.min_eq_left hmk]
    · rw [List.length_take, h5, Nat.min_eq_left hmk]
end Go.Proofs.Ytiefkpfamkkapaa
