/- The order of orders, exactly as it turns the world: what the library's sort asks of it. No condition. -/
import Derived.Test.YtiefkpfamkkapaaBookL
import Derived.Test.YtiefkpfamkkapaaChecked
import Derived.WalkKit
import Derived.Sort.Grow
set_option linter.unusedSimpArgs false
set_option linter.unusedVariables false
namespace Go.Proofs.Ytiefkpfamkkapaa
open Go Go.Sl Go.RowKit Go.Sort

set_option maxHeartbeats 1000000 in
theorem betterK (s a b : Int) (W : World) : Calls Try.prog 101 #[.int .i64 s, .int .i64 a, .int .i64 b] W fun e w' => e = .returned (.bool (betterB s a b)) ∧ w' = W := by
  go_enter Try.func101, Try.ntmps101
  go_wp2
  all_goals
    go_ret
    refine ⟨?_, rfl⟩
    simp [betterB, *]

set_option maxHeartbeats 1000000 in
theorem isNaNK (x : Int) (W : World) : Calls Try.prog 121 #[.int .i64 x] W fun e w' => e = .returned (.bool false) ∧ w' = W := by
  go_enter Try.func121, Try.ntmps121
  go_wp2
  all_goals
    go_ret
    exact ⟨by simp, rfl⟩
set_option maxHeartbeats 1000000 in
theorem cmpK (x y : Int) (W : World) : Calls Try.prog 102 #[.int .i64 x, .int .i64 y] W fun e w' => e = .returned (.int .i64 (cmpI x y)) ∧ w' = W := by
  have h1 := fun z W => isNaNK z W
  go_enter Try.func102, Try.ntmps102
  go_wp2_with (go_at_call 121; refine (h1 _ _).mono ?_; rintro e w' ⟨rfl, rfl⟩)
  all_goals
    go_ret
    refine ⟨?_, rfl⟩
    simp [cmpI, *]
    try (split <;> (try split) <;> omega)
set_option maxHeartbeats 2000000 in
theorem orderK (a b : Order) (W : World) : Calls Try.prog 80 #[.agg a.enc.toArray, .agg b.enc.toArray] W fun e w' => e = .returned (.int .i64 (cfO a b)) ∧ ∃ q os', w' = grow (W.drewN q) os' := by
  obtain ⟨a0, a1, a2, a3, a4, a5⟩ := a
  obtain ⟨b0, b1, b2, b3, b4, b5⟩ := b
  have h1 := fun s x y W => betterK s x y W
  have h2 := fun x y W => cmpK x y W
  unfold cfO
  dsimp only [Order.enc]
  go_enter Try.func80, Try.ntmps80
  go_wp2_with (first | (go_at_call 101; refine (h1 _ _ _ _).mono ?_; rintro e w' ⟨rfl, rfl⟩) | (go_at_call 102; refine (h2 _ _ _).mono ?_; rintro e w' ⟨rfl, rfl⟩))
  all_goals
    go_ret
    refine ⟨?_, 0, _, by rw [alloc_eq_grow, alloc_eq_grow, grow_grow]; rfl⟩
    simp [*]
end Go.Proofs.Ytiefkpfamkkapaa
