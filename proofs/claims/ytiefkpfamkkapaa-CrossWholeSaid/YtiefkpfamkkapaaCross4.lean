/- Contracts of package cross and of the document's answer (consolsref15), more: why an order may not come. Conditions stand in each statement. -/
import Derived.Test.YtiefkpfamkkapaaCross3
set_option linter.unusedSimpArgs false
set_option linter.unusedVariables false
namespace Go.Proofs.Ytiefkpfamkkapaa
open Go Go.Sl
attribute [local irreducible] AW ES EP Ld RetQ
set_option maxRecDepth 100000

theorem newB_side {how : Int} {o : Order} {l : List Order} (h : newB how o l = true) : isB o.side = true := by
  unfold newB at h
  simp only [Bool.and_eq_true] at h
  have := okO_side h.2.2.2.1
  unfold asX at this
  split at this <;> exact this
set_option maxHeartbeats 2000000 in
theorem cross_wrong (W : World) (p : Nat) (A : Option Addr) (c : Nat) (l : List Order) (o : Order) (how : Int) (hB : BookB l) :
    QSpec Try.prog W 93 [.pointer (some ⟨p, 0, none⟩), .agg o.enc.toArray, .int .i64 how] (bookTab p A c l []) (.int .i64 (wrongV how o l)) := by
  refine QSpec.ofD (fun h' hs => ?_)
  have m1 := hs _ mem0
  have m2 := hs _ mem1
  have hN := cross_isNew W p A c l o how hB
  have hS := cross_stays W how
  have hL := book_Len W p A c l
  have hM := fun h m1 m2 => cross_meets W h p A c l o how hB m1 m2
  have hWd := cross_Would W p A c l o how hB
  refine spec_body Try.func93 rfl rfl Try.results93 Try.ntmps93 rfl rfl ?_
  cases hnb : newB how o l
  · have hv : wrongV how o l = 1 := by unfold wrongV; rw [if_pos hnb]
    rw [hv]
    rw [hnb] at hN
    repeat' (first
      | apply aw_seq | apply aw_region | apply aw_ret | apply aw_skip | apply aw_exit | apply aw_block | apply es_nil
      | (apply es_pure hT; (iterate 4 exact rfl)) | (apply es_skip; (iterate 3 exact rfl)) | (apply es_skip0; (iterate 2 exact rfl))
      | (apply es_i64 hT; (iterate 4 exact rfl); (iterate 2 omega))
      | (apply aw_draw [] [] hmix; decide +kernel)
      | (apply es_box; (iterate 5 exact rfl); intro g4)
      | (apply es_callQ (hs := (hN.mono (memPairB (.tail _ m1) (.tail _ m2)))); (iterate 7 exact rfl))
      | (apply es_load; (iterate 5 exact rfl); first | (apply ld_blk hT; exact rfl; exact rfl; (repeat (first | exact List.mem_cons_self | apply List.mem_cons_of_mem)); exact rfl; exact rfl) | (apply ld_all hT; exact rfl; exact rfl; (repeat (first | exact List.mem_cons_self | apply List.mem_cons_of_mem)); exact rfl))
      | (apply es_box; (iterate 5 exact rfl); intro _) | (apply es_alloc hT; (iterate 5 exact rfl); intro _)
      | (apply aw_condT; (iterate 2 exact rfl)) | (apply aw_condF; (iterate 2 exact rfl))
      | (apply es_case; exact rfl; all_goals intro hb; all_goals (try simp only [hb]); all_goals (first | replace hb := of_decide_eq_true hb | replace hb := of_decide_eq_false hb | replace hb := bne_t hb | replace hb := bne_f hb | skip); all_goals (try (exfalso; omega)))
      | (apply aw_cond; exact rfl; all_goals intro hb; all_goals (try simp only [hb]); all_goals (first | replace hb := of_decide_eq_true hb | replace hb := of_decide_eq_false hb | replace hb := bne_t hb | replace hb := bne_f hb | skip); all_goals (try (exfalso; omega))))
    all_goals first
      | (exfalso; omega)
      | (apply ret1; exact rfl; exact ⟨rfl, by (repeat (first | exact dt_end | (apply dt_cons; · (repeat (first | exact sel0 | apply selS))) | apply dt_skip))⟩)
  rw [hnb] at hN
  have e0 : ¬ newB how o l = false := by rw [hnb]; decide
  by_cases h3 : staysB how = true ∧ l.length ≥ 64
  · have hv : wrongV how o l = 3 := by unfold wrongV; rw [if_neg e0, if_pos h3]
    rw [hv]
    rw [h3.1] at hS
    repeat' (first
      | apply aw_seq | apply aw_region | apply aw_ret | apply aw_skip | apply aw_exit | apply aw_block | apply es_nil
      | (apply es_pure hT; (iterate 4 exact rfl)) | (apply es_skip; (iterate 3 exact rfl)) | (apply es_skip0; (iterate 2 exact rfl))
      | (apply es_i64 hT; (iterate 4 exact rfl); (iterate 2 omega))
      | (apply aw_draw [] [] hmix; decide +kernel)
      | (apply es_box; (iterate 5 exact rfl); intro g4)
      | (apply es_callQ (hs := (hN.mono (memPairB (.tail _ m1) (.tail _ m2)))); (iterate 7 exact rfl))
      | (apply es_callQ (hs := (hS.mono (by simp))); (iterate 7 exact rfl))
      | (apply es_callQ (hs := (hL.mono (memPairB (.tail _ m1) (.tail _ m2)))); (iterate 7 exact rfl))
      | (apply es_load; (iterate 5 exact rfl); first | (apply ld_blk hT; exact rfl; exact rfl; (repeat (first | exact List.mem_cons_self | apply List.mem_cons_of_mem)); exact rfl; exact rfl) | (apply ld_all hT; exact rfl; exact rfl; (repeat (first | exact List.mem_cons_self | apply List.mem_cons_of_mem)); exact rfl))
      | (apply es_box; (iterate 5 exact rfl); intro _) | (apply es_alloc hT; (iterate 5 exact rfl); intro _)
      | (apply aw_condT; (iterate 2 exact rfl)) | (apply aw_condF; (iterate 2 exact rfl))
      | (apply es_case; exact rfl; all_goals intro hb; all_goals (try simp only [hb]); all_goals (first | replace hb := of_decide_eq_true hb | replace hb := of_decide_eq_false hb | replace hb := bne_t hb | replace hb := bne_f hb | skip); all_goals (try (exfalso; omega)))
      | (apply aw_cond; exact rfl; all_goals intro hb; all_goals (try simp only [hb]); all_goals (first | replace hb := of_decide_eq_true hb | replace hb := of_decide_eq_false hb | replace hb := bne_t hb | replace hb := bne_f hb | skip); all_goals (try (exfalso; omega))))
    all_goals first
      | (exfalso; omega)
      | (apply ret1; exact rfl; exact ⟨rfl, by (repeat (first | exact dt_end | (apply dt_cons; · (repeat (first | exact sel0 | apply selS))) | apply dt_skip))⟩)
  have hst : staysB how = false ∨ (staysB how = true ∧ l.length < 64) := by
    cases h : staysB how
    · exact .inl rfl
    · refine .inr ⟨rfl, ?_⟩
      rcases Nat.lt_or_ge l.length 64 with h2 | h2
      · exact h2
      · exact absurd ⟨h, h2⟩ h3
  by_cases h16 : how = 3
  · have hs3 : staysB how = true := by rw [h16]; rfl
    have hll : l.length < 64 := by rcases hst with h | h; (rw [hs3] at h; cases h); exact h.2
    rw [hs3] at hS
    by_cases hm0 : (meetsO how o l).length > 0
    · have hv : wrongV how o l = 16 := by unfold wrongV; rw [if_neg e0, if_neg h3, if_pos ⟨h16, hm0⟩]
      rw [hv]
      generalize meetsO how o l = ms at hM hm0
      repeat' (first
        | apply aw_seq | apply aw_region | apply aw_ret | apply aw_skip | apply aw_exit | apply aw_block | apply es_nil
        | (apply es_pure hT; (iterate 4 exact rfl)) | (apply es_skip; (iterate 3 exact rfl)) | (apply es_skip0; (iterate 2 exact rfl))
        | (apply es_i64 hT; (iterate 4 exact rfl); (iterate 2 omega))
        | (apply aw_draw [] [] hmix; decide +kernel)
        | (apply es_box; (iterate 5 exact rfl); intro g4)
        | (apply es_callQ (hs := (hN.mono (memPairB (.tail _ m1) (.tail _ m2)))); (iterate 7 exact rfl))
        | (apply es_callQ (hs := (hS.mono (by simp))); (iterate 7 exact rfl))
        | (apply es_callQ (hs := (hL.mono (memPairB (.tail _ m1) (.tail _ m2)))); (iterate 7 exact rfl))
        | (apply es_call (hs := (hM _ (.tail _ m1) (.tail _ m2))); (iterate 7 exact rfl); rintro _ _ ⟨AM, cM, rfl, rfl, hfM⟩)
        | (apply es_load; (iterate 5 exact rfl); first | (apply ld_blk hT; exact rfl; exact rfl; (repeat (first | exact List.mem_cons_self | apply List.mem_cons_of_mem)); exact rfl; exact rfl) | (apply ld_all hT; exact rfl; exact rfl; (repeat (first | exact List.mem_cons_self | apply List.mem_cons_of_mem)); exact rfl))
        | (apply es_box; (iterate 5 exact rfl); intro _) | (apply es_alloc hT; (iterate 5 exact rfl); intro _)
        | (apply aw_condT; (iterate 2 exact rfl)) | (apply aw_condF; (iterate 2 exact rfl))
        | (apply es_case; exact rfl; all_goals intro hb; all_goals (try simp only [hb]); all_goals (first | replace hb := of_decide_eq_true hb | replace hb := of_decide_eq_false hb | replace hb := bne_t hb | replace hb := bne_f hb | skip); all_goals (try (exfalso; omega)))
        | (apply aw_cond; exact rfl; all_goals intro hb; all_goals (try simp only [hb]); all_goals (first | replace hb := of_decide_eq_true hb | replace hb := of_decide_eq_false hb | replace hb := bne_t hb | replace hb := bne_f hb | skip); all_goals (try (exfalso; omega))))
      all_goals first
        | (exfalso; omega)
        | (apply ret1; exact rfl; exact ⟨rfl, by (repeat (first | exact dt_end | (apply dt_cons; · (repeat (first | exact sel0 | apply selS))) | apply dt_skip))⟩)
    · have hv : wrongV how o l = 0 := by unfold wrongV; rw [if_neg e0, if_neg h3, if_neg (fun h => hm0 h.2), if_neg (by omega)]
      rw [hv]
      generalize meetsO how o l = ms at hM hm0
      repeat' (first
        | apply aw_seq | apply aw_region | apply aw_ret | apply aw_skip | apply aw_exit | apply aw_block | apply es_nil
        | (apply es_pure hT; (iterate 4 exact rfl)) | (apply es_skip; (iterate 3 exact rfl)) | (apply es_skip0; (iterate 2 exact rfl))
        | (apply es_i64 hT; (iterate 4 exact rfl); (iterate 2 omega))
        | (apply es_box; (iterate 5 exact rfl); intro g4)
        | (apply es_callQ (hs := (hN.mono (memPairB (.tail _ m1) (.tail _ m2)))); (iterate 7 exact rfl))
        | (apply es_callQ (hs := (hS.mono (by simp))); (iterate 7 exact rfl))
        | (apply es_callQ (hs := (hL.mono (memPairB (.tail _ m1) (.tail _ m2)))); (iterate 7 exact rfl))
        | (apply es_call (hs := (hM _ (.tail _ m1) (.tail _ m2))); (iterate 7 exact rfl); rintro _ _ ⟨AM, cM, rfl, rfl, hfM⟩)
        | (apply aw_draw [64] [] hmix; decide +kernel)
        | (apply es_load; (iterate 5 exact rfl); first | (apply ld_blk hT; exact rfl; exact rfl; (repeat (first | exact List.mem_cons_self | apply List.mem_cons_of_mem)); exact rfl; exact rfl) | (apply ld_all hT; exact rfl; exact rfl; (repeat (first | exact List.mem_cons_self | apply List.mem_cons_of_mem)); exact rfl))
        | (apply es_box; (iterate 5 exact rfl); intro _) | (apply es_alloc hT; (iterate 5 exact rfl); intro _)
        | (apply aw_condT; (iterate 2 exact rfl)) | (apply aw_condF; (iterate 2 exact rfl))
        | (apply es_case; exact rfl; all_goals intro hb; all_goals (try simp only [hb]); all_goals (first | replace hb := of_decide_eq_true hb | replace hb := of_decide_eq_false hb | replace hb := bne_t hb | replace hb := bne_f hb | skip); all_goals (try (exfalso; omega)))
        | (apply aw_cond; exact rfl; all_goals intro hb; all_goals (try simp only [hb]); all_goals (first | replace hb := of_decide_eq_true hb | replace hb := of_decide_eq_false hb | replace hb := bne_t hb | replace hb := bne_f hb | skip); all_goals (try (exfalso; omega))))
      all_goals first
        | (exfalso; omega)
        | (apply ret1; exact rfl; exact ⟨rfl, by (repeat (first | exact dt_end | (apply dt_cons; · (repeat (first | exact sel0 | apply selS))) | apply dt_skip))⟩)
  by_cases h17 : how = 2
  · have hs2 : staysB how = false := by rw [h17]; rfl
    rw [hs2] at hS
    by_cases hw0 : wouldV how o l < o.left
    · have hv : wrongV how o l = 17 := by unfold wrongV; rw [if_neg e0, if_neg h3, if_neg (fun h => h16 h.1), if_pos ⟨h17, hw0⟩]
      rw [hv]
      generalize wouldV how o l = wv at hWd hw0
      repeat' (first
        | apply aw_seq | apply aw_region | apply aw_ret | apply aw_skip | apply aw_exit | apply aw_block | apply es_nil
        | (apply es_pure hT; (iterate 4 exact rfl)) | (apply es_skip; (iterate 3 exact rfl)) | (apply es_skip0; (iterate 2 exact rfl))
        | (apply es_i64 hT; (iterate 4 exact rfl); (iterate 2 omega))
        | (apply es_box; (iterate 5 exact rfl); intro g4)
        | (apply es_callQ (hs := (hN.mono (memPairB (.tail _ m1) (.tail _ m2)))); (iterate 7 exact rfl))
        | (apply es_callQ (hs := (hS.mono (by simp))); (iterate 7 exact rfl))
        | (apply aw_draw [64] [] hmix; decide +kernel)
        | (apply es_callQ (hs := (hWd.mono (memPairB (.tail _ m1) (.tail _ m2)))); (iterate 7 exact rfl))
        | (apply es_load; (iterate 5 exact rfl); first | (apply ld_blk hT; exact rfl; exact rfl; (repeat (first | exact List.mem_cons_self | apply List.mem_cons_of_mem)); exact rfl; exact rfl) | (apply ld_all hT; exact rfl; exact rfl; (repeat (first | exact List.mem_cons_self | apply List.mem_cons_of_mem)); exact rfl))
        | (apply es_box; (iterate 5 exact rfl); intro _) | (apply es_alloc hT; (iterate 5 exact rfl); intro _)
        | (apply aw_condT; (iterate 2 exact rfl)) | (apply aw_condF; (iterate 2 exact rfl))
        | (apply es_case; exact rfl; all_goals intro hb; all_goals (try simp only [hb]); all_goals (first | replace hb := of_decide_eq_true hb | replace hb := of_decide_eq_false hb | replace hb := bne_t hb | replace hb := bne_f hb | skip); all_goals (try (exfalso; omega)))
        | (apply aw_cond; exact rfl; all_goals intro hb; all_goals (try simp only [hb]); all_goals (first | replace hb := of_decide_eq_true hb | replace hb := of_decide_eq_false hb | replace hb := bne_t hb | replace hb := bne_f hb | skip); all_goals (try (exfalso; omega))))
      all_goals first
        | (exfalso; omega)
        | (apply ret1; exact rfl; exact ⟨rfl, by (repeat (first | exact dt_end | (apply dt_cons; · (repeat (first | exact sel0 | apply selS))) | apply dt_skip))⟩)
    · have hv : wrongV how o l = 0 := by unfold wrongV; rw [if_neg e0, if_neg h3, if_neg (fun h => h16 h.1), if_neg (fun h => hw0 h.2)]
      rw [hv]
      generalize wouldV how o l = wv at hWd hw0
      repeat' (first
        | apply aw_seq | apply aw_region | apply aw_ret | apply aw_skip | apply aw_exit | apply aw_block | apply es_nil
        | (apply es_pure hT; (iterate 4 exact rfl)) | (apply es_skip; (iterate 3 exact rfl)) | (apply es_skip0; (iterate 2 exact rfl))
        | (apply es_i64 hT; (iterate 4 exact rfl); (iterate 2 omega))
        | (apply es_box; (iterate 5 exact rfl); intro g4)
        | (apply es_callQ (hs := (hN.mono (memPairB (.tail _ m1) (.tail _ m2)))); (iterate 7 exact rfl))
        | (apply es_callQ (hs := (hS.mono (by simp))); (iterate 7 exact rfl))
        | (apply aw_draw [64] [] hmix; decide +kernel)
        | (apply es_callQ (hs := (hWd.mono (memPairB (.tail _ m1) (.tail _ m2)))); (iterate 7 exact rfl))
        | (apply es_load; (iterate 5 exact rfl); first | (apply ld_blk hT; exact rfl; exact rfl; (repeat (first | exact List.mem_cons_self | apply List.mem_cons_of_mem)); exact rfl; exact rfl) | (apply ld_all hT; exact rfl; exact rfl; (repeat (first | exact List.mem_cons_self | apply List.mem_cons_of_mem)); exact rfl))
        | (apply es_box; (iterate 5 exact rfl); intro _) | (apply es_alloc hT; (iterate 5 exact rfl); intro _)
        | (apply aw_condT; (iterate 2 exact rfl)) | (apply aw_condF; (iterate 2 exact rfl))
        | (apply es_case; exact rfl; all_goals intro hb; all_goals (try simp only [hb]); all_goals (first | replace hb := of_decide_eq_true hb | replace hb := of_decide_eq_false hb | replace hb := bne_t hb | replace hb := bne_f hb | skip); all_goals (try (exfalso; omega)))
        | (apply aw_cond; exact rfl; all_goals intro hb; all_goals (try simp only [hb]); all_goals (first | replace hb := of_decide_eq_true hb | replace hb := of_decide_eq_false hb | replace hb := bne_t hb | replace hb := bne_f hb | skip); all_goals (try (exfalso; omega))))
      all_goals first
        | (exfalso; omega)
        | (apply ret1; exact rfl; exact ⟨rfl, by (repeat (first | exact dt_end | (apply dt_cons; · (repeat (first | exact sel0 | apply selS))) | apply dt_skip))⟩)
  have hv : wrongV how o l = 0 := by unfold wrongV; rw [if_neg e0, if_neg h3, if_neg (fun h => h16 h.1), if_neg (fun h => h17 h.1)]
  rw [hv]
  rcases hst with hst | ⟨hst, hll⟩
  all_goals
    rw [hst] at hS
    repeat' (first
      | apply aw_seq | apply aw_region | apply aw_ret | apply aw_skip | apply aw_exit | apply aw_block | apply es_nil
      | (apply es_pure hT; (iterate 4 exact rfl)) | (apply es_skip; (iterate 3 exact rfl)) | (apply es_skip0; (iterate 2 exact rfl))
      | (apply es_i64 hT; (iterate 4 exact rfl); (iterate 2 omega))
      | (apply es_box; (iterate 5 exact rfl); intro g4)
      | (apply es_callQ (hs := (hN.mono (memPairB (.tail _ m1) (.tail _ m2)))); (iterate 7 exact rfl))
      | (apply es_callQ (hs := (hS.mono (by simp))); (iterate 7 exact rfl))
      | (apply es_callQ (hs := (hL.mono (memPairB (.tail _ m1) (.tail _ m2)))); (iterate 7 exact rfl))
      | (apply aw_draw [64] [] hmix; decide +kernel)
      | (apply es_load; (iterate 5 exact rfl); first | (apply ld_blk hT; exact rfl; exact rfl; (repeat (first | exact List.mem_cons_self | apply List.mem_cons_of_mem)); exact rfl; exact rfl) | (apply ld_all hT; exact rfl; exact rfl; (repeat (first | exact List.mem_cons_self | apply List.mem_cons_of_mem)); exact rfl))
      | (apply es_box; (iterate 5 exact rfl); intro _) | (apply es_alloc hT; (iterate 5 exact rfl); intro _)
      | (apply aw_condT; (iterate 2 exact rfl)) | (apply aw_condF; (iterate 2 exact rfl))
      | (apply es_case; exact rfl; all_goals intro hb; all_goals (try simp only [hb]); all_goals (first | replace hb := of_decide_eq_true hb | replace hb := of_decide_eq_false hb | replace hb := bne_t hb | replace hb := bne_f hb | skip); all_goals (try (exfalso; omega)))
      | (apply aw_cond; exact rfl; all_goals intro hb; all_goals (try simp only [hb]); all_goals (first | replace hb := of_decide_eq_true hb | replace hb := of_decide_eq_false hb | replace hb := bne_t hb | replace hb := bne_f hb | skip); all_goals (try (exfalso; omega))))
    all_goals first
      | (exfalso; omega)
      | (apply ret1; exact rfl; exact ⟨rfl, by (repeat (first | exact dt_end | (apply dt_cons; · (repeat (first | exact sel0 | apply selS))) | apply dt_skip))⟩)

set_option maxHeartbeats 1000000 in
theorem ref15_first (W : World) (p : Nat) (A : Option Addr) (c : Nat) (l : List Order) (o : Order) (how : Int) (hB : BookB l) :
    QSpec Try.prog W 97 [.pointer (some ⟨p, 0, none⟩), .agg o.enc.toArray, .int .i64 how] (refB p A c l []) (gotO (meetsO how o l).head?) := by
  refine QSpec.ofD (fun h' hs => ?_)
  have m1 := hs _ mem0
  have m2 := hs _ mem1
  have hO := ref2_Other W o.side
  have hS := fun h m1 m2 => ref14_Side W h p A c l (otherB o.side) m1 m2 hB.le
  have hside : ∀ x ∈ sideO (otherB o.side) l, x.side = otherB o.side := fun x hx => (sideO_side hx).2
  have hsl := sideO_len (otherB o.side) l
  have hbl := hB.len
  unfold meetsO
  generalize sideO (otherB o.side) l = sl at hS hside hsl ⊢
  refine spec_body Try.func97 rfl rfl Try.results97 Try.ntmps97 rfl rfl ?_
  cases sl with
  | nil =>
    have hd : (((([] : List Order).length : Nat) : Int) == 0) = true := by decide
    repeat' (first
      | apply aw_seq | apply aw_region | apply aw_ret | apply aw_skip | apply aw_exit | apply aw_block | apply es_nil
      | (apply es_pure hT; (iterate 4 exact rfl)) | (apply es_skip; (iterate 3 exact rfl)) | (apply es_skip0; (iterate 2 exact rfl))
      | (apply es_i64 hT; (iterate 4 exact rfl); (iterate 2 omega))
      | (apply es_box; (iterate 5 exact rfl); intro g4)
      | (apply es_alloc hT; (iterate 5 exact rfl); first | ((fail_if_success (have q := g6)); intro g6) | intro _)
      | (apply es_callQ (hs := (hO.mono (by simp))); (iterate 7 exact rfl))
      | (apply es_call (hs := (hS _ (.tail _ (.tail _ m1)) (.tail _ (.tail _ m2)))); (iterate 7 exact rfl); rintro _ _ ⟨AS, cS, rfl, rfl, hfS⟩)
      | (apply aw_draw [92] [] hmix; decide +kernel)
      | (apply es_build hT; (iterate 4 exact rfl))
      | (apply es_store hT; (iterate 6 exact rfl); (repeat (first | exact sel0 | apply selS)); (iterate 3 exact rfl); exact Nat.le_of_ble_eq_true rfl)
      | (apply es_load; (iterate 5 exact rfl); first | (apply ld_blk hT; exact rfl; exact rfl; (repeat (first | exact List.mem_cons_self | apply List.mem_cons_of_mem)); exact rfl; exact rfl) | (apply ld_all hT; exact rfl; exact rfl; (repeat (first | exact List.mem_cons_self | apply List.mem_cons_of_mem)); exact rfl))
      | (apply es_box; (iterate 5 exact rfl); intro _) | (apply es_alloc hT; (iterate 5 exact rfl); intro _)
      | (apply aw_condT; (iterate 2 exact rfl)) | (apply aw_condF; (iterate 2 exact rfl))
      | (apply es_case; exact rfl; all_goals intro hb; all_goals (try simp only [hb]); all_goals (first | replace hb := of_decide_eq_true hb | replace hb := of_decide_eq_false hb | replace hb := bne_t hb | replace hb := bne_f hb | skip); all_goals (try (exfalso; omega)))
      | (apply aw_cond; exact rfl; all_goals intro hb; all_goals (try simp only [hb]); all_goals (first | replace hb := of_decide_eq_true hb | replace hb := of_decide_eq_false hb | replace hb := bne_t hb | replace hb := bne_f hb | skip); all_goals (try (exfalso; omega))))
    all_goals first
      | (exfalso; omega)
      | (apply ret2c; exact rfl; exact ld_all hT rfl rfl mem0 rfl; exact rfl; exact ⟨rfl, by (repeat (first | exact dt_end | (apply dt_cons; · (repeat (first | exact sel0 | apply selS))) | apply dt_skip))⟩)
      | (exfalso; simp_all; done)
  | cons x r =>
    have hxs := hside x List.mem_cons_self
    have hmt := ref15_meets W o x how
    have hmb : meetsB how o x = takesB how o x := by simp [meetsB, hxs]
    rw [hmb] at hmt
    have h0 : (x :: r)[(0 : Int).toNat]? = some x := rfl
    have hd : ((((x :: r).length : Nat) : Int) == 0) = false := beq_eq_false_iff_ne.2 (by simp; omega)
    rw [List.takeWhile_cons]
    generalize hl : x :: r = sl at *
    have hpos : 0 < sl.length := by rw [← hl]; simp
    cases htk : takesB how o x
    · rw [htk] at hmt
      repeat' (first
        | apply aw_seq | apply aw_region | apply aw_ret | apply aw_skip | apply aw_exit | apply aw_block | apply es_nil
        | (apply es_pure hT; (iterate 4 exact rfl)) | (apply es_skip; (iterate 3 exact rfl)) | (apply es_skip0; (iterate 2 exact rfl))
        | (apply es_i64 hT; (iterate 4 exact rfl); (iterate 2 omega))
        | (apply es_box; (iterate 5 exact rfl); intro g4)
        | (apply es_alloc hT; (iterate 5 exact rfl); first | ((fail_if_success (have q := g6)); intro g6) | intro _)
        | (apply es_callQ (hs := (hO.mono (by simp))); (iterate 7 exact rfl))
        | (apply es_call (hs := (hS _ (.tail _ (.tail _ m1)) (.tail _ (.tail _ m2)))); (iterate 7 exact rfl); (rintro _ _ ⟨AS, cS, rfl, rfl, hfS⟩; have hA := hfS.some_ hpos))
        | (apply aw_draw [92] [] hmix; decide +kernel)
        | (apply es_idx hT; (iterate 8 exact rfl); (iterate 2 omega); exact hA)
        | (apply es_load; (iterate 5 exact rfl); exact ld_elem hT rfl rfl (hfS.reads mem0) Order.enc_len rfl h0 rfl)
        | (apply es_callQ (hs := (hmt.mono (by simp))); (iterate 7 exact rfl))
        | (apply es_build hT; (iterate 4 exact rfl))
        | (apply es_store hT; (iterate 6 exact rfl); (repeat (first | exact sel0 | apply selS)); (iterate 3 exact rfl); exact Nat.le_of_ble_eq_true rfl)
        | (apply es_load; (iterate 5 exact rfl); first | (apply ld_blk hT; exact rfl; exact rfl; (repeat (first | exact List.mem_cons_self | apply List.mem_cons_of_mem)); exact rfl; exact rfl) | (apply ld_all hT; exact rfl; exact rfl; (repeat (first | exact List.mem_cons_self | apply List.mem_cons_of_mem)); exact rfl))
        | (apply es_box; (iterate 5 exact rfl); intro _) | (apply es_alloc hT; (iterate 5 exact rfl); intro _)
        | (apply aw_condT; (iterate 2 exact rfl)) | (apply aw_condF; (iterate 2 exact rfl))
        | (apply es_case; exact rfl; all_goals intro hb; all_goals (try simp only [hb]); all_goals (first | replace hb := of_decide_eq_true hb | replace hb := of_decide_eq_false hb | replace hb := bne_t hb | replace hb := bne_f hb | skip); all_goals (try (exfalso; omega)))
        | (apply aw_cond; exact rfl; all_goals intro hb; all_goals (try simp only [hb]); all_goals (first | replace hb := of_decide_eq_true hb | replace hb := of_decide_eq_false hb | replace hb := bne_t hb | replace hb := bne_f hb | skip); all_goals (try (exfalso; omega))))
      all_goals first
        | (exfalso; omega)
        | (apply ret2c; exact rfl; exact ld_all hT rfl rfl mem0 rfl; exact rfl; exact ⟨rfl, by (repeat (first | exact dt_end | (apply dt_cons; · (repeat (first | exact sel0 | apply selS))) | apply dt_skip))⟩)
        | (exfalso; simp_all; done)
    · rw [htk] at hmt
      repeat' (first
        | apply aw_seq | apply aw_region | apply aw_ret | apply aw_skip | apply aw_exit | apply aw_block | apply es_nil
        | (apply es_pure hT; (iterate 4 exact rfl)) | (apply es_skip; (iterate 3 exact rfl)) | (apply es_skip0; (iterate 2 exact rfl))
        | (apply es_i64 hT; (iterate 4 exact rfl); (iterate 2 omega))
        | (apply es_box; (iterate 5 exact rfl); intro g4)
        | (apply es_alloc hT; (iterate 5 exact rfl); first | ((fail_if_success (have q := g6)); intro g6) | intro _)
        | (apply es_callQ (hs := (hO.mono (by simp))); (iterate 7 exact rfl))
        | (apply es_call (hs := (hS _ (.tail _ (.tail _ m1)) (.tail _ (.tail _ m2)))); (iterate 7 exact rfl); (rintro _ _ ⟨AS, cS, rfl, rfl, hfS⟩; have hA := hfS.some_ hpos))
        | (apply aw_draw [92] [] hmix; decide +kernel)
        | (apply es_idx hT; (iterate 8 exact rfl); (iterate 2 omega); exact hA)
        | (apply es_load; (iterate 5 exact rfl); exact ld_elem hT rfl rfl (hfS.reads mem0) Order.enc_len rfl h0 rfl)
        | (apply es_callQ (hs := (hmt.mono (by simp))); (iterate 7 exact rfl))
        | (apply es_build hT; (iterate 4 exact rfl))
        | (apply es_store hT; (iterate 6 exact rfl); (repeat (first | exact sel0 | apply selS)); (iterate 3 exact rfl); exact Nat.le_of_ble_eq_true rfl)
        | (apply es_load; (iterate 5 exact rfl); first | (apply ld_blk hT; exact rfl; exact rfl; (repeat (first | exact List.mem_cons_self | apply List.mem_cons_of_mem)); exact rfl; exact rfl) | (apply ld_all hT; exact rfl; exact rfl; (repeat (first | exact List.mem_cons_self | apply List.mem_cons_of_mem)); exact rfl))
        | (apply es_box; (iterate 5 exact rfl); intro _) | (apply es_alloc hT; (iterate 5 exact rfl); intro _)
        | (apply aw_condT; (iterate 2 exact rfl)) | (apply aw_condF; (iterate 2 exact rfl))
        | (apply es_case; exact rfl; all_goals intro hb; all_goals (try simp only [hb]); all_goals (first | replace hb := of_decide_eq_true hb | replace hb := of_decide_eq_false hb | replace hb := bne_t hb | replace hb := bne_f hb | skip); all_goals (try (exfalso; omega)))
        | (apply aw_cond; exact rfl; all_goals intro hb; all_goals (try simp only [hb]); all_goals (first | replace hb := of_decide_eq_true hb | replace hb := of_decide_eq_false hb | replace hb := bne_t hb | replace hb := bne_f hb | skip); all_goals (try (exfalso; omega))))
      all_goals first
        | (exfalso; omega)
        | (apply ret2c; exact rfl; exact ld_all hT rfl rfl mem0 rfl; exact rfl; exact ⟨rfl, by (repeat (first | exact dt_end | (apply dt_cons; · (repeat (first | exact sel0 | apply selS))) | apply dt_skip))⟩)
        | (exfalso; simp_all; done)
end Go.Proofs.Ytiefkpfamkkapaa
