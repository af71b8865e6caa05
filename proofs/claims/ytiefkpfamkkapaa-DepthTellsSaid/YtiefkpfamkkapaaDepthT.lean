/- What the statement DepthTells answers. Conditions stand in each statement. -/
import Derived.Test.YtiefkpfamkkapaaDepthK
set_option linter.unusedSimpArgs false
set_option linter.unusedVariables false
namespace Go.Proofs.Ytiefkpfamkkapaa
open Go Go.Sl
attribute [local irreducible] AW ES EP Ld RetQ
set_option maxRecDepth 100000

set_option maxHeartbeats 2000000 in
theorem depth_Tells (W : World) (A0 : Option Addr) (c0 : Nat) (ls : List Order) (s qty : Int) (hr0 : Reads W [] A0 ls.length 6 (ls.flatMap Order.enc)) :
    FSpec Try.prog W 11 [.slice A0 ls.length c0, .int .i64 s, .int .i64 qty] [] (fun v _ => v = .bool true) := by
  refine spec_body Try.func11 rfl rfl Try.results11 Try.ntmps11 rfl rfl ?_
  by_cases h1 : ls.length > 80
  · repeat' (first
      | apply aw_seq | apply aw_region | apply aw_ret | apply aw_skip | apply aw_exit | apply aw_block | apply es_nil
      | (apply es_pure hT; (iterate 4 exact rfl)) | (apply es_skip; (iterate 3 exact rfl)) | (apply es_skip0; (iterate 2 exact rfl))
      | (apply es_i64 hT; (iterate 4 exact rfl); (iterate 2 omega))
      | (apply aw_draw [] [] hmix; decide +kernel)
      | (apply es_load; (iterate 5 exact rfl); first | (apply ld_blk hT; exact rfl; exact rfl; (repeat (first | exact List.mem_cons_self | apply List.mem_cons_of_mem)); exact rfl; exact rfl) | (apply ld_all hT; exact rfl; exact rfl; (repeat (first | exact List.mem_cons_self | apply List.mem_cons_of_mem)); exact rfl))
      | (apply es_box; (iterate 5 exact rfl); intro _) | (apply es_alloc hT; (iterate 5 exact rfl); intro _)
      | (apply aw_condT; (iterate 2 exact rfl)) | (apply aw_condF; (iterate 2 exact rfl))
      | (apply es_case; exact rfl; all_goals intro hb; all_goals (try simp only [hb]); all_goals (first | replace hb := of_decide_eq_true hb | replace hb := of_decide_eq_false hb | replace hb := bne_t hb | replace hb := bne_f hb | skip); all_goals (try (exfalso; omega)))
      | (apply aw_cond; exact rfl; all_goals intro hb; all_goals (try simp only [hb]); all_goals (first | replace hb := of_decide_eq_true hb | replace hb := of_decide_eq_false hb | replace hb := bne_t hb | replace hb := bne_f hb | skip); all_goals (try (exfalso; omega))))
    apply ret1; exact rfl; exact rfl
  have hboth := both16 W [] A0 c0 ls hr0 (by omega)
  have hB := bookOf_B ls
  generalize bookOf ls = l at hboth hB
  obtain ⟨n, b, hnb⟩ := gotW_is (sweepS s l qty)
  have hs1 := fun p A c => (depth_Sweep W p A c l s qty hB).cast hnb
  have hs2 := fun p A c => (ref16_Sweep W p A c l s qty hB).cast hnb
  have ha1 := fun p A c => depth_All W p A c l s hB
  have ha2 := fun p A c => ref16_All W p A c l s hB
  have hkn := depth_known W
  generalize allS s l = al at ha1 ha2
  cases b
  all_goals
    repeat' (first
      | (apply es_sameB hT; (iterate 5 exact rfl))
      | apply aw_seq | apply aw_region | apply aw_ret | apply aw_skip | apply aw_exit | apply aw_block | apply es_nil
      | (apply es_pure hT; (iterate 4 exact rfl)) | (apply es_skip; (iterate 3 exact rfl)) | (apply es_skip0; (iterate 2 exact rfl))
      | (apply es_i64 hT; (iterate 4 exact rfl); (iterate 2 omega))
      | (apply aw_draw [] [] hmix; decide +kernel)
      | (apply es_call (hs := hboth); (iterate 7 exact rfl); rintro _ _ ⟨p, A, c, q, A', c', rfl, rfl⟩)
      | (apply es_alloc hT; (iterate 5 exact rfl); intro g9)
      | (apply es_callQ (hs := ((hs1 p A c).mono (memPairB mem0 mem1))); (iterate 7 exact rfl))
      | (apply es_callQ (hs := ((hs2 q A' c').mono (memPairB mem3 mem4))); (iterate 7 exact rfl))
      | (apply es_callQ (hs := ((ha1 p A c).mono (memPairB mem2 mem3))); (iterate 7 exact rfl))
      | (apply es_callQ (hs := ((ha2 q A' c').mono (memPairB mem4 mem5))); (iterate 7 exact rfl))
      | (apply es_callQ (hs := (same16 W _ p q A A' c c' l hB mem2 mem3 mem4 mem5)); (iterate 7 exact rfl))
      | (apply es_callQ (hs := (hkn.mono (by simp))); (iterate 7 exact rfl))
      | (apply es_store hT; (iterate 6 exact rfl); (repeat (first | exact sel0 | apply selS)); (iterate 3 exact rfl); exact Nat.le_of_ble_eq_true rfl)
      | (apply es_eqS hT; (iterate 5 exact rfl); exact eqW_same _; exact sOKWide)
      | (apply es_load; (iterate 5 exact rfl); first | (apply ld_blk hT; exact rfl; exact rfl; (repeat (first | exact List.mem_cons_self | apply List.mem_cons_of_mem)); exact rfl; exact rfl) | (apply ld_all hT; exact rfl; exact rfl; (repeat (first | exact List.mem_cons_self | apply List.mem_cons_of_mem)); exact rfl))
      | (apply es_box; (iterate 5 exact rfl); intro _) | (apply es_alloc hT; (iterate 5 exact rfl); intro _)
      | (apply aw_condT; (iterate 2 exact rfl)) | (apply aw_condF; (iterate 2 exact rfl))
      | (apply es_case; exact rfl; all_goals intro hb; all_goals (try simp only [hb]); all_goals (first | replace hb := of_decide_eq_true hb | replace hb := of_decide_eq_false hb | replace hb := bne_t hb | replace hb := bne_f hb | skip); all_goals (try (exfalso; omega)))
      | (apply aw_cond; exact rfl; all_goals intro hb; all_goals (try simp only [hb]); all_goals (first | replace hb := of_decide_eq_true hb | replace hb := of_decide_eq_false hb | replace hb := bne_t hb | replace hb := bne_f hb | skip); all_goals (try (exfalso; omega))))
    all_goals first
      | (exfalso; omega)
      | (apply ret1; exact rfl; exact rfl)
      | skip
end Go.Proofs.Ytiefkpfamkkapaa
