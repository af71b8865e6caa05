/- What the statement DepthMore answers. Conditions stand in each statement. -/
import Derived.Test.YtiefkpfamkkapaaDepthK
set_option linter.unusedSimpArgs false
set_option linter.unusedVariables false
namespace Go.Proofs.Ytiefkpfamkkapaa
open Go Go.Sl
attribute [local irreducible] AW ES EP Ld RetQ
set_option maxRecDepth 100000

theorem sweep_more {l : List Order} (hB : BookB l) {s q : Int} (h1 : 1 ≤ q) : sweepS s l (q + 1) = none ∨ ∃ m n, sweepS s l q = some m ∧ sweepS s l (q + 1) = some n ∧ m < n := by
  by_cases h : allS s l < q + 1
  · exact .inl (by unfold sweepS; rw [if_pos (.inr h)])
  · have hok := (hB.okS s).pq
    have e1 : ¬ (q < 1 ∨ allS s l < q) := by omega
    have e2 : ¬ (q + 1 < 1 ∨ allS s l < q + 1) := by omega
    refine .inr ⟨_, _, by unfold sweepS; rw [if_neg e1], by unfold sweepS; rw [if_neg e2], ?_⟩
    have := costL_more hok (q := q) (by omega) (by unfold allS at h; omega)
    have := costL_bound hok (q := q) (by omega)
    have := totL_pos hok
    omega
set_option maxHeartbeats 2000000 in
theorem depth_More (W : World) (A0 : Option Addr) (c0 : Nat) (ls : List Order) (s qty : Int) (hr0 : Reads W [] A0 ls.length 6 (ls.flatMap Order.enc)) :
    FSpec Try.prog W 8 [.slice A0 ls.length c0, .int .i64 s, .int .i64 qty] [] (fun v _ => v = .bool true) := by
  refine spec_body Try.func8 rfl rfl Try.results8 Try.ntmps8 rfl rfl ?_
  by_cases h1 : ls.length > 60 ∨ qty < 1 ∨ qty > 1000
  · repeat' (first
      | apply aw_seq | apply aw_region | apply aw_ret | apply aw_skip | apply aw_exit | apply aw_block | apply es_nil
      | (apply es_pure hT; (iterate 4 exact rfl)) | (apply es_skip; (iterate 3 exact rfl)) | (apply es_skip0; (iterate 2 exact rfl))
      | (apply es_i64 hT; (iterate 4 exact rfl); (iterate 2 omega))
      | (apply aw_draw [] [] hmix; decide +kernel)
      | (apply es_load; (iterate 5 exact rfl); first | (apply ld_blk hT; exact rfl; exact rfl; (repeat (first | exact List.mem_cons_self | apply List.mem_cons_of_mem)); exact rfl; exact rfl) | (apply ld_all hT; exact rfl; exact rfl; (repeat (first | exact List.mem_cons_self | apply List.mem_cons_of_mem)); exact rfl))
      | (apply es_box; (iterate 5 exact rfl); intro _) | (apply es_alloc hT; (iterate 5 exact rfl); intro _)
      | (apply aw_condT; (iterate 2 exact rfl)) | (apply aw_condF; (iterate 2 exact rfl))
      | (apply es_case; exact rfl; all_goals intro hb; all_goals (try simp only [hb]); all_goals (first | replace hb := of_decide_eq_true hb | replace hb := of_decide_eq_false hb | replace hb := bne_t hb | replace hb := bne_f hb | skip); all_goals (try (exfalso; omega)))
      | (apply aw_cond; exact rfl; all_goals intro hb; all_goals (try simp only [hb]); all_goals (first | replace hb := of_decide_eq_true hb | replace hb := of_decide_eq_false hb | replace hb := bne_t hb | replace hb := bne_f hb | skip); all_goals (try (exfalso; omega))))
    all_goals first
      | (exfalso; omega)
      | (apply ret1; exact rfl; exact rfl)
  have hboth := both16 W [] A0 c0 ls hr0 (by omega)
  have hB := bookOf_B ls
  generalize bookOf ls = l at hboth hB
  have hs1 := fun p A c => (depth_Sweep W p A c l s qty hB)
  have hs2 := fun p A c => (depth_Sweep W p A c l s (qty + 1) hB)
  have hkn := depth_known W
  rcases sweep_more hB (s := s) (q := qty) (by omega) with e2 | ⟨m, n, e1, e2, hmn⟩
  · obtain ⟨n, b, hnb⟩ := gotW_is (sweepS s l qty)
    rw [hnb] at hs1
    rw [e2] at hs2
    repeat' (first
      | apply aw_seq | apply aw_region | apply aw_ret | apply aw_skip | apply aw_exit | apply aw_block | apply es_nil
      | (apply es_pure hT; (iterate 4 exact rfl)) | (apply es_skip; (iterate 3 exact rfl)) | (apply es_skip0; (iterate 2 exact rfl))
      | (apply es_i64 hT; (iterate 4 exact rfl); (iterate 2 omega))
      | (apply aw_draw [] [] hmix; decide +kernel)
      | (apply es_call (hs := hboth); (iterate 7 exact rfl); rintro _ _ ⟨p, A, c, q, A', c', rfl, rfl⟩)
      | (apply es_alloc hT; (iterate 5 exact rfl); intro g9)
      | (apply es_callQ (hs := ((hs1 p A c).mono (memPairB mem0 mem1))); (iterate 7 exact rfl))
      | (apply es_callQ (hs := ((hs2 p A c).mono (memPairB mem1 mem2))); (iterate 7 exact rfl))
      | (apply es_callQ (hs := (hkn.mono (by simp))); (iterate 7 exact rfl))
      | (apply es_store hT; (iterate 6 exact rfl); (repeat (first | exact sel0 | apply selS)); (iterate 3 exact rfl); exact Nat.le_of_ble_eq_true rfl)
      | (apply es_load; (iterate 5 exact rfl); first | (apply ld_blk hT; exact rfl; exact rfl; (repeat (first | exact List.mem_cons_self | apply List.mem_cons_of_mem)); exact rfl; exact rfl) | (apply ld_all hT; exact rfl; exact rfl; (repeat (first | exact List.mem_cons_self | apply List.mem_cons_of_mem)); exact rfl))
      | (apply es_box; (iterate 5 exact rfl); intro _) | (apply es_alloc hT; (iterate 5 exact rfl); intro _)
      | (apply aw_condT; (iterate 2 exact rfl)) | (apply aw_condF; (iterate 2 exact rfl))
      | (apply es_case; exact rfl; all_goals intro hb; all_goals (try simp only [hb]); all_goals (first | replace hb := of_decide_eq_true hb | replace hb := of_decide_eq_false hb | replace hb := bne_t hb | replace hb := bne_f hb | skip); all_goals (try (exfalso; omega)))
      | (apply aw_cond; exact rfl; all_goals intro hb; all_goals (try simp only [hb]); all_goals (first | replace hb := of_decide_eq_true hb | replace hb := of_decide_eq_false hb | replace hb := bne_t hb | replace hb := bne_f hb | skip); all_goals (try (exfalso; omega))))
    all_goals first
      | (exfalso; omega)
      | (apply ret1; exact rfl; exact rfl)
      | skip
  · rw [e1] at hs1
    rw [e2] at hs2
    have hcm := (ref1_Cmp W m n).cast (by rw [show cmpW m n = -1 by unfold cmpW; rw [if_pos hmn]])
    repeat' (first
      | apply aw_seq | apply aw_region | apply aw_ret | apply aw_skip | apply aw_exit | apply aw_block | apply es_nil
      | (apply es_pure hT; (iterate 4 exact rfl)) | (apply es_skip; (iterate 3 exact rfl)) | (apply es_skip0; (iterate 2 exact rfl))
      | (apply es_i64 hT; (iterate 4 exact rfl); (iterate 2 omega))
      | (apply aw_draw [] [] hmix; decide +kernel)
      | (apply es_call (hs := hboth); (iterate 7 exact rfl); rintro _ _ ⟨p, A, c, q, A', c', rfl, rfl⟩)
      | (apply es_alloc hT; (iterate 5 exact rfl); intro g9)
      | (apply es_callQ (hs := ((hs1 p A c).mono (memPairB mem0 mem1))); (iterate 7 exact rfl))
      | (apply es_callQ (hs := ((hs2 p A c).mono (memPairB mem1 mem2))); (iterate 7 exact rfl))
      | (apply es_callQ (hs := (hcm.mono (by simp))); (iterate 7 exact rfl))
      | (apply es_callQ (hs := (hkn.mono (by simp))); (iterate 7 exact rfl))
      | (apply es_store hT; (iterate 6 exact rfl); (repeat (first | exact sel0 | apply selS)); (iterate 3 exact rfl); exact Nat.le_of_ble_eq_true rfl)
      | (apply es_load; (iterate 5 exact rfl); first | (apply ld_blk hT; exact rfl; exact rfl; (repeat (first | exact List.mem_cons_self | apply List.mem_cons_of_mem)); exact rfl; exact rfl) | (apply ld_all hT; exact rfl; exact rfl; (repeat (first | exact List.mem_cons_self | apply List.mem_cons_of_mem)); exact rfl))
      | (apply es_box; (iterate 5 exact rfl); intro _) | (apply es_alloc hT; (iterate 5 exact rfl); intro _)
      | (apply aw_condT; (iterate 2 exact rfl)) | (apply aw_condF; (iterate 2 exact rfl))
      | (apply es_case; exact rfl; all_goals intro hb; all_goals (try simp only [hb]); all_goals (first | replace hb := of_decide_eq_true hb | replace hb := of_decide_eq_false hb | replace hb := bne_t hb | replace hb := bne_f hb | skip); all_goals (try (exfalso; omega)))
      | (apply aw_cond; exact rfl; all_goals intro hb; all_goals (try simp only [hb]); all_goals (first | replace hb := of_decide_eq_true hb | replace hb := of_decide_eq_false hb | replace hb := bne_t hb | replace hb := bne_f hb | skip); all_goals (try (exfalso; omega))))
    all_goals first
      | (exfalso; omega)
      | (apply ret1; exact rfl; exact rfl)
      | skip
end Go.Proofs.Ytiefkpfamkkapaa
