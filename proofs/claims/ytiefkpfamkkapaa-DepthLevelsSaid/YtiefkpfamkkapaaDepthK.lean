/- What the statements of chapter 16 know by hand; small things. Conditions stand in each statement. -/
import Derived.Test.YtiefkpfamkkapaaRef16
import Derived.Test.YtiefkpfamkkapaaBoth16
set_option linter.unusedSimpArgs false
set_option linter.unusedVariables false
namespace Go.Proofs.Ytiefkpfamkkapaa
open Go Go.Sl
attribute [local irreducible] AW ES EP Ld RetQ
set_option maxRecDepth 100000

theorem sOKWide : structOK Try.prog 58 := ⟨by kernel_rfl, by kernel_rfl⟩
theorem eqW_same (n : Nat) : eqSt TT 58 (wideE n).toArray (wideE n).toArray = some true := by
  have h : eqSt TT 58 (wideE n).toArray (wideE n).toArray = some ((((n / 18446744073709551616 : Nat) : Int) == ((n / 18446744073709551616 : Nat) : Int)) && ((((n % 18446744073709551616 : Nat) : Int) == ((n % 18446744073709551616 : Nat) : Int)) && true)) := rfl
  rw [h]; simp
theorem gotW_is (m : Option Nat) : ∃ n b, gotW m = .tuple #[.agg (wideE n).toArray, .bool b] := by
  cases m with
  | none => exact ⟨0, false, rfl⟩
  | some n => exact ⟨n, true, rfl⟩

def kd1 : Order := ⟨1, 1, 0, 2, 10, 5⟩
def kd2 : Order := ⟨2, 2, 0, 2, 12, 5⟩
set_option maxHeartbeats 1000000 in
theorem depth_known (W : World) : QSpec Try.prog W 46 [] [] (.bool true) := by
  refine QSpec.ofD (fun h' hs => ?_)
  have hbo : bookOf [kd1, kd2] = [kd1, kd2] := by decide +kernel
  have hB := bookOf_B [kd1, kd2]
  rw [hbo] at hB
  have hboth : ∀ g h, Chunk.own (some ⟨g, 0, none⟩) 2 2 29 6 (([kd1, kd2] : List Order).flatMap Order.enc) ∈ h → FSpec Try.prog W 44 [.slice (some ⟨g, 0, none⟩) 2 2] h (fun v h' => ∃ p A c q A' c', v = .tuple #[.pointer (some ⟨p, 0, none⟩), .pointer (some ⟨q, 0, none⟩)] ∧ h' = bookTab p A c [kd1, kd2] (refB q A' c' [kd1, kd2] h)) := fun g h hm => by
    have := both16 W h (some ⟨g, 0, none⟩) 2 [kd1, kd2] (Reads.own hm rfl (List.all_eq_true.1 (rfl : (([kd1, kd2] : List Order).flatMap Order.enc).all Value.oneCell' = true))) (by simp)
    rw [hbo] at this
    exact this
  have hs7 : ∀ p A c, QSpec Try.prog W 45 [.pointer (some ⟨p, 0, none⟩), .int .i64 2, .int .i64 7] (bookTab p A c [kd1, kd2] []) (.tuple #[.agg (wideE 74).toArray, .bool true]) := fun p A c =>
    (depth_Sweep W p A c [kd1, kd2] 2 7 hB).cast (by rw [show sweepS 2 [kd1, kd2] 7 = some 74 by decide +kernel]; rfl)
  have hs11 : ∀ p A c, QSpec Try.prog W 45 [.pointer (some ⟨p, 0, none⟩), .int .i64 2, .int .i64 11] (bookTab p A c [kd1, kd2] []) (.tuple #[.agg (wideE 0).toArray, .bool false]) := fun p A c =>
    (depth_Sweep W p A c [kd1, kd2] 2 11 hB).cast (by rw [show sweepS 2 [kd1, kd2] 11 = none by decide +kernel]; rfl)
  have hall : ∀ p A c, QSpec Try.prog W 50 [.pointer (some ⟨p, 0, none⟩), .int .i64 2] (bookTab p A c [kd1, kd2] []) (.int .i64 10) := fun p A c =>
    (depth_All W p A c [kd1, kd2] 2 hB).cast (by rw [show allS 2 [kd1, kd2] = 10 by decide +kernel])
  have h74 : eqSt TT 58 (wideE 74).toArray #[.int .u64 0, .int .u64 74] = some true := by
    have := eqW_same 74
    rw [show (wideE 74).toArray = #[.int .u64 0, .int .u64 74] from rfl] at this ⊢
    exact this
  refine spec_body Try.func46 rfl rfl Try.results46 Try.ntmps46 rfl rfl ?_
  repeat' (first
    | apply aw_seq | apply aw_region | apply aw_ret | apply aw_skip | apply aw_exit | apply aw_block | apply es_nil
    | (apply es_pure hT; (iterate 4 exact rfl)) | (apply es_skip; (iterate 3 exact rfl)) | (apply es_skip0; (iterate 2 exact rfl))
    | (apply es_i64 hT; (iterate 4 exact rfl); (iterate 2 omega))
    | (apply aw_draw [] [] hmix; decide +kernel)
    | (apply es_build hT; (iterate 4 exact rfl))
    | (apply es_buildSlice hT; (iterate 12 exact rfl); intro g)
    | (apply es_call (hs := (hboth _ _ mem0)); (iterate 7 exact rfl); rintro _ _ ⟨p, A, c, q, A', c', rfl, rfl⟩)
    | (apply es_alloc hT; (iterate 5 exact rfl); intro g3)
    | (apply es_callQ (hs := ((hs7 p A c).mono (memPairB mem0 mem1))); (iterate 7 exact rfl))
    | (apply es_callQ (hs := ((hs11 p A c).mono (memPairB mem1 mem2))); (iterate 7 exact rfl))
    | (apply es_callQ (hs := ((hall p A c).mono (memPairB mem2 mem3))); (iterate 7 exact rfl))
    | (apply es_store hT; (iterate 6 exact rfl); (repeat (first | exact sel0 | apply selS)); (iterate 3 exact rfl); exact Nat.le_of_ble_eq_true rfl)
    | (apply es_eqS hT; (iterate 5 exact rfl); exact h74; exact sOKWide)
    | (apply es_load; (iterate 5 exact rfl); first | (apply ld_blk hT; exact rfl; exact rfl; (repeat (first | exact List.mem_cons_self | apply List.mem_cons_of_mem)); exact rfl; exact rfl) | (apply ld_all hT; exact rfl; exact rfl; (repeat (first | exact List.mem_cons_self | apply List.mem_cons_of_mem)); exact rfl))
    | (apply es_box; (iterate 5 exact rfl); intro _) | (apply es_alloc hT; (iterate 5 exact rfl); intro _)
    | (apply aw_condT; (iterate 2 exact rfl)) | (apply aw_condF; (iterate 2 exact rfl))
    | (apply es_case; exact rfl; all_goals intro hb; all_goals (try simp only [hb]); all_goals (first | replace hb := of_decide_eq_true hb | replace hb := of_decide_eq_false hb | replace hb := bne_t hb | replace hb := bne_f hb | skip); all_goals (try (exfalso; omega)))
    | (apply aw_cond; exact rfl; all_goals intro hb; all_goals (try simp only [hb]); all_goals (first | replace hb := of_decide_eq_true hb | replace hb := of_decide_eq_false hb | replace hb := bne_t hb | replace hb := bne_f hb | skip); all_goals (try (exfalso; omega))))
  all_goals first
    | (exfalso; omega)
    | (apply ret1; exact rfl; exact ⟨rfl, by (repeat (first | exact dt_end | apply dt_skip))⟩)
    | skip
end Go.Proofs.Ytiefkpfamkkapaa
