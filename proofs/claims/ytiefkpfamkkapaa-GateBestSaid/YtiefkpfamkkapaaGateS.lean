/- What the statements GateChecks, GateEmpty, GateEdge and GateOne answer. Conditions stand in each statement. -/
import Derived.Test.YtiefkpfamkkapaaGate
import Derived.Test.YtiefkpfamkkapaaRow
set_option linter.unusedSimpArgs false
set_option linter.unusedVariables false
namespace Go.Proofs.Ytiefkpfamkkapaa
open Go Go.Sl
attribute [local irreducible] AW ES EP Ld RetQ
set_option maxRecDepth 100000

theorem wf64 {n : Int} (h : (Lit.int .i64 n).wf = true) : -9223372036854775808 ≤ n ∧ n ≤ 9223372036854775807 := by
  have h1 : (decide ((-9223372036854775808 : Int) ≤ n) && decide (n ≤ (9223372036854775807 : Int))) = true := h
  simpa using h1

set_option maxHeartbeats 1000000 in
theorem gate_Checks (W : World) (A0 : Option Addr) (c0 : Nat) (ls : List Order) (s price qty : Int) (hr0 : Reads W [] A0 ls.length 6 (ls.flatMap Order.enc)) (hp : price ≤ 9223372036854775807) (hq : qty ≤ 9223372036854775807) :
    FSpec Try.prog W 15 [.slice A0 ls.length c0, .int .i64 s, .int .i64 price, .int .i64 qty] [] (fun v _ => v = .bool true) := by
  refine spec_body Try.func15 rfl rfl Try.results15 Try.ntmps15 rfl rfl ?_
  by_cases h1 : ls.length > 60
  · repeat' (first
      | apply aw_seq | apply aw_region | apply aw_ret | apply aw_skip | apply aw_exit | apply aw_block | apply es_nil
      | (apply es_pure hT; (iterate 4 exact rfl)) | (apply es_skip; (iterate 3 exact rfl)) | (apply es_skip0; (iterate 2 exact rfl))
      | (apply es_i64 hT; (iterate 4 exact rfl); (iterate 2 omega))
      | (apply aw_draw [] [] hmix; decide +kernel)
      | (apply es_load; (iterate 5 exact rfl); first | (apply ld_blk hT; exact rfl; exact rfl; (repeat (first | exact List.mem_cons_self | apply List.mem_cons_of_mem)); exact rfl; exact rfl) | (apply ld_all hT; exact rfl; exact rfl; (repeat (first | exact List.mem_cons_self | apply List.mem_cons_of_mem)); exact rfl))
      | (apply es_box; (iterate 5 exact rfl); intro _) | (apply es_alloc hT; (iterate 5 exact rfl); intro _)
      | (apply aw_condT; (iterate 2 exact rfl)) | (apply aw_condF; (iterate 2 exact rfl))
      | (apply es_case; exact rfl; all_goals intro hb; all_goals (try simp only [hb]); all_goals (first | replace hb := of_decide_eq_true hb | replace hb := of_decide_eq_false hb | replace hb := bne_t hb | replace hb := bne_f hb | skip); all_goals (try (exfalso; omega)))
      | (apply aw_cond; exact rfl; all_goals intro hb; all_goals (try simp only [hb]); all_goals (first | replace hb := of_decide_eq_true hb | replace hb := of_decide_eq_false hb | replace hb := bne_t hb | replace hb := bne_f hb | skip); all_goals (try (exfalso; omega))))
    apply ret1; exact rfl; exact rfl
  have hboth := both19 W [] A0 c0 ls hr0 (by omega)
  have hB := bookOf_B ls
  generalize bookOf ls = l at hboth hB
  have hc1 := fun p A c => gate_Check W p A c l s price qty hB hp hq
  have hc2 := fun p A c => ref19_Check W p A c l s price qty hB hp hq
  have hkn := gate_known W
  generalize checkV s price qty l = e at hc1 hc2
  repeat' (first
    | (apply es_sameB hT; (iterate 5 exact rfl))
    | apply aw_seq | apply aw_region | apply aw_ret | apply aw_skip | apply aw_exit | apply aw_block | apply es_nil
    | (apply es_pure hT; (iterate 4 exact rfl)) | (apply es_skip; (iterate 3 exact rfl)) | (apply es_skip0; (iterate 2 exact rfl))
    | (apply es_i64 hT; (iterate 4 exact rfl); (iterate 2 omega))
    | (apply aw_draw [] [] hmix; decide +kernel)
    | (apply es_call (hs := hboth); (iterate 7 exact rfl); rintro _ _ ⟨p, A, c, q, A', c', rfl, rfl⟩)
    | (apply es_callQ (hs := ((hc1 p A c).mono (memPairB mem0 mem1))); (iterate 7 exact rfl))
    | (apply es_callQ (hs := ((hc2 q A' c').mono (memPairB mem2 mem3))); (iterate 7 exact rfl))
    | (apply es_callQ (hs := (same19 W _ p q A A' c c' l hB mem0 mem1 mem2 mem3)); (iterate 7 exact rfl))
    | (apply es_callQ (hs := (hkn.mono (by simp))); (iterate 7 exact rfl))
    | (apply es_load; (iterate 5 exact rfl); first | (apply ld_blk hT; exact rfl; exact rfl; (repeat (first | exact List.mem_cons_self | apply List.mem_cons_of_mem)); exact rfl; exact rfl) | (apply ld_all hT; exact rfl; exact rfl; (repeat (first | exact List.mem_cons_self | apply List.mem_cons_of_mem)); exact rfl))
    | (apply es_box; (iterate 5 exact rfl); intro _) | (apply es_alloc hT; (iterate 5 exact rfl); intro _)
    | (apply aw_condT; (iterate 2 exact rfl)) | (apply aw_condF; (iterate 2 exact rfl))
    | (apply es_case; exact rfl; all_goals intro hb; all_goals (try simp only [hb]); all_goals (first | replace hb := of_decide_eq_true hb | replace hb := of_decide_eq_false hb | replace hb := bne_t hb | replace hb := bne_f hb | skip); all_goals (try (exfalso; omega)))
    | (apply aw_cond; exact rfl; all_goals intro hb; all_goals (try simp only [hb]); all_goals (first | replace hb := of_decide_eq_true hb | replace hb := of_decide_eq_false hb | replace hb := bne_t hb | replace hb := bne_f hb | skip); all_goals (try (exfalso; omega))))
  all_goals first
    | (exfalso; omega)
    | (apply ret1; exact rfl; exact rfl)
    | skip

theorem check_nil (s price qty : Int) : checkV s price qty [] = if isB s = false ∨ price < 1 ∨ qty < 1 then 1 else 0 := by
  unfold checkV
  split
  · rfl
  · have : sweepS (otherB s) [] qty = none := by
      unfold sweepS
      have : allS (otherB s) [] = 0 := rfl
      rw [if_pos (by omega)]
    rw [this]
set_option maxHeartbeats 1000000 in
theorem gate_Empty (W : World) (s price qty : Int) (hp : price ≤ 9223372036854775807) (hq : qty ≤ 9223372036854775807) :
    FSpec Try.prog W 12 [.int .i64 s, .int .i64 price, .int .i64 qty] [] (fun v _ => v = .bool true) := by
  refine spec_body Try.func12 rfl rfl Try.results12 Try.ntmps12 rfl rfl ?_
  have hc1 := fun p A c => gate_Check W p A c [] s price qty BookB.nil hp hq
  have hkn := gate_known W
  have hI := ref2_Is W s
  rw [check_nil] at hc1
  cases hb : isB s
  · rw [hb] at hI
    rw [if_pos (.inl hb)] at hc1
    repeat' (first
      | apply aw_seq | apply aw_region | apply aw_ret | apply aw_skip | apply aw_exit | apply aw_block | apply es_nil
      | (apply es_pure hT; (iterate 4 exact rfl)) | (apply es_skip; (iterate 3 exact rfl)) | (apply es_skip0; (iterate 2 exact rfl))
      | (apply es_i64 hT; (iterate 4 exact rfl); (iterate 2 omega))
      | (apply aw_draw [] [] hmix; decide +kernel)
      | (apply es_call (hs := (book_New W _)); (iterate 7 exact rfl); rintro _ _ ⟨p, A, c, rfl, rfl⟩)
      | (apply es_callQ (hs := ((hc1 p A c).mono (memPairB mem0 mem1))); (iterate 7 exact rfl))
      | (apply es_callQ (hs := (hI.mono (by simp))); (iterate 7 exact rfl))
      | (apply es_callQ (hs := (hkn.mono (by simp))); (iterate 7 exact rfl))
      | (apply es_load; (iterate 5 exact rfl); first | (apply ld_blk hT; exact rfl; exact rfl; (repeat (first | exact List.mem_cons_self | apply List.mem_cons_of_mem)); exact rfl; exact rfl) | (apply ld_all hT; exact rfl; exact rfl; (repeat (first | exact List.mem_cons_self | apply List.mem_cons_of_mem)); exact rfl))
      | (apply es_box; (iterate 5 exact rfl); intro _) | (apply es_alloc hT; (iterate 5 exact rfl); intro _)
      | (apply aw_condT; (iterate 2 exact rfl)) | (apply aw_condF; (iterate 2 exact rfl))
      | (apply es_case; exact rfl; all_goals intro hb; all_goals (try simp only [hb]); all_goals (first | replace hb := of_decide_eq_true hb | replace hb := of_decide_eq_false hb | replace hb := bne_t hb | replace hb := bne_f hb | skip); all_goals (try (exfalso; omega)))
      | (apply aw_cond; exact rfl; all_goals intro hb; all_goals (try simp only [hb]); all_goals (first | replace hb := of_decide_eq_true hb | replace hb := of_decide_eq_false hb | replace hb := bne_t hb | replace hb := bne_f hb | skip); all_goals (try (exfalso; omega))))
    all_goals first
      | (exfalso; omega)
      | (apply ret1; exact rfl; exact rfl)
      | (exfalso; simp at hb; omega)
  · rw [hb] at hI hc1
    by_cases hbad : price < 1 ∨ qty < 1
    · rw [if_pos (.inr hbad)] at hc1
      repeat' (first
        | apply aw_seq | apply aw_region | apply aw_ret | apply aw_skip | apply aw_exit | apply aw_block | apply es_nil
        | (apply es_pure hT; (iterate 4 exact rfl)) | (apply es_skip; (iterate 3 exact rfl)) | (apply es_skip0; (iterate 2 exact rfl))
        | (apply es_i64 hT; (iterate 4 exact rfl); (iterate 2 omega))
        | (apply aw_draw [] [] hmix; decide +kernel)
        | (apply es_call (hs := (book_New W _)); (iterate 7 exact rfl); rintro _ _ ⟨p, A, c, rfl, rfl⟩)
        | (apply es_callQ (hs := ((hc1 p A c).mono (memPairB mem0 mem1))); (iterate 7 exact rfl))
        | (apply es_callQ (hs := (hI.mono (by simp))); (iterate 7 exact rfl))
        | (apply es_callQ (hs := (hkn.mono (by simp))); (iterate 7 exact rfl))
        | (apply es_load; (iterate 5 exact rfl); first | (apply ld_blk hT; exact rfl; exact rfl; (repeat (first | exact List.mem_cons_self | apply List.mem_cons_of_mem)); exact rfl; exact rfl) | (apply ld_all hT; exact rfl; exact rfl; (repeat (first | exact List.mem_cons_self | apply List.mem_cons_of_mem)); exact rfl))
        | (apply es_box; (iterate 5 exact rfl); intro _) | (apply es_alloc hT; (iterate 5 exact rfl); intro _)
        | (apply aw_condT; (iterate 2 exact rfl)) | (apply aw_condF; (iterate 2 exact rfl))
        | (apply es_case; exact rfl; all_goals intro hb; all_goals (try simp only [hb]); all_goals (first | replace hb := of_decide_eq_true hb | replace hb := of_decide_eq_false hb | replace hb := bne_t hb | replace hb := bne_f hb | skip); all_goals (try (exfalso; omega)))
        | (apply aw_cond; exact rfl; all_goals intro hb; all_goals (try simp only [hb]); all_goals (first | replace hb := of_decide_eq_true hb | replace hb := of_decide_eq_false hb | replace hb := bne_t hb | replace hb := bne_f hb | skip); all_goals (try (exfalso; omega))))
      all_goals first
        | (exfalso; omega)
        | (apply ret1; exact rfl; exact rfl)
        | (exfalso; simp at hb; omega)
    · rw [if_neg (by simp; omega)] at hc1
      repeat' (first
        | apply aw_seq | apply aw_region | apply aw_ret | apply aw_skip | apply aw_exit | apply aw_block | apply es_nil
        | (apply es_pure hT; (iterate 4 exact rfl)) | (apply es_skip; (iterate 3 exact rfl)) | (apply es_skip0; (iterate 2 exact rfl))
        | (apply es_i64 hT; (iterate 4 exact rfl); (iterate 2 omega))
        | (apply aw_draw [] [] hmix; decide +kernel)
        | (apply es_call (hs := (book_New W _)); (iterate 7 exact rfl); rintro _ _ ⟨p, A, c, rfl, rfl⟩)
        | (apply es_callQ (hs := ((hc1 p A c).mono (memPairB mem0 mem1))); (iterate 7 exact rfl))
        | (apply es_callQ (hs := (hI.mono (by simp))); (iterate 7 exact rfl))
        | (apply es_callQ (hs := (hkn.mono (by simp))); (iterate 7 exact rfl))
        | (apply es_load; (iterate 5 exact rfl); first | (apply ld_blk hT; exact rfl; exact rfl; (repeat (first | exact List.mem_cons_self | apply List.mem_cons_of_mem)); exact rfl; exact rfl) | (apply ld_all hT; exact rfl; exact rfl; (repeat (first | exact List.mem_cons_self | apply List.mem_cons_of_mem)); exact rfl))
        | (apply es_box; (iterate 5 exact rfl); intro _) | (apply es_alloc hT; (iterate 5 exact rfl); intro _)
        | (apply aw_condT; (iterate 2 exact rfl)) | (apply aw_condF; (iterate 2 exact rfl))
        | (apply es_case; exact rfl; all_goals intro hb; all_goals (try simp only [hb]); all_goals (first | replace hb := of_decide_eq_true hb | replace hb := of_decide_eq_false hb | replace hb := bne_t hb | replace hb := bne_f hb | skip); all_goals (try (exfalso; omega)))
        | (apply aw_cond; exact rfl; all_goals intro hb; all_goals (try simp only [hb]); all_goals (first | replace hb := of_decide_eq_true hb | replace hb := of_decide_eq_false hb | replace hb := bne_t hb | replace hb := bne_f hb | skip); all_goals (try (exfalso; omega))))
      all_goals first
        | (exfalso; omega)
        | (apply ret1; exact rfl; exact rfl)
        | (exfalso; simp at hb; omega)

theorem check_is (s price qty : Int) (l : List Order) (hs : isB s = true) (hp : 1 ≤ price) (hq : 1 ≤ qty) : checkV s price qty l = 0 ∨ checkV s price qty l = 13 := by
  unfold checkV
  rw [if_neg (by rw [hs]; simp; omega)]
  split
  · exact .inl rfl
  · split
    · exact .inr rfl
    · exact .inl rfl
theorem check_edge (s price qty : Int) (l : List Order) (hs : isB s = true) (hp : 2 ≤ price) (hq : 1 ≤ qty) :
    (s = 1 → checkV s price qty l = 13 ∨ checkV s (price - 1) qty l = 0) ∧ (s = 2 → checkV s (price - 1) qty l = 13 ∨ checkV s price qty l = 0) := by
  unfold checkV
  rw [if_neg (by rw [hs]; simp; omega), if_neg (by rw [hs]; simp; omega)]
  cases hm : sweepS (otherB s) l qty with
  | none => exact ⟨fun _ => .inr rfl, fun _ => .inr rfl⟩
  | some m =>
    dsimp only
    have e : (price - 1) * qty = price * qty - qty := by rw [Int.sub_mul, Int.one_mul]
    have hpos : 0 ≤ (price - 1) * qty := Int.mul_nonneg (by omega) (by omega)
    rw [e] at hpos ⊢
    generalize price * qty = w at hpos ⊢
    refine ⟨fun h => ?_, fun h => ?_⟩
    · by_cases hc : m < (w - qty).toNat
      · left; rw [if_pos (.inl ⟨h, by omega⟩)]
      · right; rw [if_neg (by omega)]
    · by_cases hc : w.toNat < m
      · left; rw [if_pos (.inr ⟨h, by omega⟩)]
      · right; rw [if_neg (by omega)]
set_option maxHeartbeats 2000000 in
theorem gate_Edge (W : World) (A0 : Option Addr) (c0 : Nat) (ls : List Order) (s price qty : Int) (hr0 : Reads W [] A0 ls.length 6 (ls.flatMap Order.enc)) :
    FSpec Try.prog W 13 [.slice A0 ls.length c0, .int .i64 s, .int .i64 price, .int .i64 qty] [] (fun v _ => v = .bool true) := by
  refine spec_body Try.func13 rfl rfl Try.results13 Try.ntmps13 rfl rfl ?_
  have hI := ref2_Is W s
  by_cases h1 : ls.length > 60 ∨ isB s = false ∨ price < 2 ∨ price > 1000000 ∨ qty < 1 ∨ qty > 1000000
  · cases hb : isB s
    · rw [hb] at hI
      repeat' (first
        | apply aw_seq | apply aw_region | apply aw_ret | apply aw_skip | apply aw_exit | apply aw_block | apply es_nil
        | (apply es_pure hT; (iterate 4 exact rfl)) | (apply es_skip; (iterate 3 exact rfl)) | (apply es_skip0; (iterate 2 exact rfl))
        | (apply es_i64 hT; (iterate 4 exact rfl); (iterate 2 omega))
        | (apply aw_draw [] [] hmix; decide +kernel)
        | (apply es_callQ (hs := (hI.mono (by simp))); (iterate 7 exact rfl))
        | (apply es_load; (iterate 5 exact rfl); first | (apply ld_blk hT; exact rfl; exact rfl; (repeat (first | exact List.mem_cons_self | apply List.mem_cons_of_mem)); exact rfl; exact rfl) | (apply ld_all hT; exact rfl; exact rfl; (repeat (first | exact List.mem_cons_self | apply List.mem_cons_of_mem)); exact rfl))
        | (apply es_box; (iterate 5 exact rfl); intro _) | (apply es_alloc hT; (iterate 5 exact rfl); intro _)
        | (apply aw_condT; (iterate 2 exact rfl)) | (apply aw_condF; (iterate 2 exact rfl))
        | (apply es_case; exact rfl; all_goals intro hb; all_goals (try simp only [hb]); all_goals (first | replace hb := of_decide_eq_true hb | replace hb := of_decide_eq_false hb | replace hb := bne_t hb | replace hb := bne_f hb | skip); all_goals (try (exfalso; omega)))
        | (apply aw_cond; exact rfl; all_goals intro hb; all_goals (try simp only [hb]); all_goals (first | replace hb := of_decide_eq_true hb | replace hb := of_decide_eq_false hb | replace hb := bne_t hb | replace hb := bne_f hb | skip); all_goals (try (exfalso; omega))))
      all_goals first
        | (exfalso; omega)
        | (apply ret1; exact rfl; exact rfl)
    · rw [hb] at hI h1
      simp only [Bool.true_eq_false, false_or] at h1
      repeat' (first
        | apply aw_seq | apply aw_region | apply aw_ret | apply aw_skip | apply aw_exit | apply aw_block | apply es_nil
        | (apply es_pure hT; (iterate 4 exact rfl)) | (apply es_skip; (iterate 3 exact rfl)) | (apply es_skip0; (iterate 2 exact rfl))
        | (apply es_i64 hT; (iterate 4 exact rfl); (iterate 2 omega))
        | (apply aw_draw [] [] hmix; decide +kernel)
        | (apply es_callQ (hs := (hI.mono (by simp))); (iterate 7 exact rfl))
        | (apply es_load; (iterate 5 exact rfl); first | (apply ld_blk hT; exact rfl; exact rfl; (repeat (first | exact List.mem_cons_self | apply List.mem_cons_of_mem)); exact rfl; exact rfl) | (apply ld_all hT; exact rfl; exact rfl; (repeat (first | exact List.mem_cons_self | apply List.mem_cons_of_mem)); exact rfl))
        | (apply es_box; (iterate 5 exact rfl); intro _) | (apply es_alloc hT; (iterate 5 exact rfl); intro _)
        | (apply aw_condT; (iterate 2 exact rfl)) | (apply aw_condF; (iterate 2 exact rfl))
        | (apply es_case; exact rfl; all_goals intro hb; all_goals (try simp only [hb]); all_goals (first | replace hb := of_decide_eq_true hb | replace hb := of_decide_eq_false hb | replace hb := bne_t hb | replace hb := bne_f hb | skip); all_goals (try (exfalso; omega)))
        | (apply aw_cond; exact rfl; all_goals intro hb; all_goals (try simp only [hb]); all_goals (first | replace hb := of_decide_eq_true hb | replace hb := of_decide_eq_false hb | replace hb := bne_t hb | replace hb := bne_f hb | skip); all_goals (try (exfalso; omega))))
      all_goals first
        | (exfalso; omega)
        | (apply ret1; exact rfl; exact rfl)
  have hb : isB s = true := by
    cases hb : isB s
    · exact absurd (.inr (.inl hb)) h1
    · rfl
  rw [hb] at hI h1
  simp only [Bool.true_eq_false, false_or] at h1
  have hboth := both19 W [] A0 c0 ls hr0 (by omega)
  have hB := bookOf_B ls
  generalize bookOf ls = l at hboth hB
  have hc1 := fun p A c => gate_Check W p A c l s price qty hB (by omega) (by omega)
  have hc2 := fun p A c => gate_Check W p A c l s (price - 1) qty hB (by omega) (by omega)
  have hkn := gate_known W
  have hed := check_edge s price qty l hb (by omega) (by omega)
  have his1 := check_is s price qty l hb (by omega) (by omega)
  have his2 := check_is s (price - 1) qty l hb (by omega) (by omega)
  generalize checkV s price qty l = e1 at hc1 hed his1
  generalize checkV s (price - 1) qty l = e2 at hc2 hed his2
  rcases isB_two hb with rfl | rfl
  · have hed := hed.1 rfl
    rcases his1 with rfl | rfl
    all_goals
      rcases his2 with rfl | rfl
      all_goals try (exfalso; omega)
      all_goals
        repeat' (first
          | apply aw_seq | apply aw_region | apply aw_ret | apply aw_skip | apply aw_exit | apply aw_block | apply es_nil
          | (apply es_pure hT; (iterate 4 exact rfl)) | (apply es_skip; (iterate 3 exact rfl)) | (apply es_skip0; (iterate 2 exact rfl))
          | (apply es_i64 hT; (iterate 4 exact rfl); (iterate 2 omega))
          | (apply aw_draw [] [] hmix; decide +kernel)
          | (apply es_callQ (hs := (hI.mono (by simp))); (iterate 7 exact rfl))
          | (apply es_call (hs := hboth); (iterate 7 exact rfl); rintro _ _ ⟨p, A, c, q, A', c', rfl, rfl⟩)
          | (apply es_callQ (hs := ((hc1 p A c).mono (memPairB mem0 mem1))); (iterate 7 exact rfl))
          | (apply es_callQ (hs := ((hc2 p A c).mono (memPairB mem0 mem1))); (iterate 7 exact rfl))
          | (apply es_callQ (hs := (hkn.mono (by simp))); (iterate 7 exact rfl))
          | (apply es_load; (iterate 5 exact rfl); first | (apply ld_blk hT; exact rfl; exact rfl; (repeat (first | exact List.mem_cons_self | apply List.mem_cons_of_mem)); exact rfl; exact rfl) | (apply ld_all hT; exact rfl; exact rfl; (repeat (first | exact List.mem_cons_self | apply List.mem_cons_of_mem)); exact rfl))
          | (apply es_box; (iterate 5 exact rfl); intro _) | (apply es_alloc hT; (iterate 5 exact rfl); intro _)
          | (apply aw_condT; (iterate 2 exact rfl)) | (apply aw_condF; (iterate 2 exact rfl))
          | (apply es_case; exact rfl; all_goals intro hb; all_goals (try simp only [hb]); all_goals (first | replace hb := of_decide_eq_true hb | replace hb := of_decide_eq_false hb | replace hb := bne_t hb | replace hb := bne_f hb | skip); all_goals (try (exfalso; omega)))
          | (apply aw_cond; exact rfl; all_goals intro hb; all_goals (try simp only [hb]); all_goals (first | replace hb := of_decide_eq_true hb | replace hb := of_decide_eq_false hb | replace hb := bne_t hb | replace hb := bne_f hb | skip); all_goals (try (exfalso; omega))))
        all_goals first
          | (exfalso; omega)
          | (apply ret1; exact rfl; exact rfl)
          | skip
  · have hed := hed.2 rfl
    rcases his1 with rfl | rfl
    all_goals
      rcases his2 with rfl | rfl
      all_goals try (exfalso; omega)
      all_goals
        repeat' (first
          | apply aw_seq | apply aw_region | apply aw_ret | apply aw_skip | apply aw_exit | apply aw_block | apply es_nil
          | (apply es_pure hT; (iterate 4 exact rfl)) | (apply es_skip; (iterate 3 exact rfl)) | (apply es_skip0; (iterate 2 exact rfl))
          | (apply es_i64 hT; (iterate 4 exact rfl); (iterate 2 omega))
          | (apply aw_draw [] [] hmix; decide +kernel)
          | (apply es_callQ (hs := (hI.mono (by simp))); (iterate 7 exact rfl))
          | (apply es_call (hs := hboth); (iterate 7 exact rfl); rintro _ _ ⟨p, A, c, q, A', c', rfl, rfl⟩)
          | (apply es_callQ (hs := ((hc1 p A c).mono (memPairB mem0 mem1))); (iterate 7 exact rfl))
          | (apply es_callQ (hs := ((hc2 p A c).mono (memPairB mem0 mem1))); (iterate 7 exact rfl))
          | (apply es_callQ (hs := (hkn.mono (by simp))); (iterate 7 exact rfl))
          | (apply es_load; (iterate 5 exact rfl); first | (apply ld_blk hT; exact rfl; exact rfl; (repeat (first | exact List.mem_cons_self | apply List.mem_cons_of_mem)); exact rfl; exact rfl) | (apply ld_all hT; exact rfl; exact rfl; (repeat (first | exact List.mem_cons_self | apply List.mem_cons_of_mem)); exact rfl))
          | (apply es_box; (iterate 5 exact rfl); intro _) | (apply es_alloc hT; (iterate 5 exact rfl); intro _)
          | (apply aw_condT; (iterate 2 exact rfl)) | (apply aw_condF; (iterate 2 exact rfl))
          | (apply es_case; exact rfl; all_goals intro hb; all_goals (try simp only [hb]); all_goals (first | replace hb := of_decide_eq_true hb | replace hb := of_decide_eq_false hb | replace hb := bne_t hb | replace hb := bne_f hb | skip); all_goals (try (exfalso; omega)))
          | (apply aw_cond; exact rfl; all_goals intro hb; all_goals (try simp only [hb]); all_goals (first | replace hb := of_decide_eq_true hb | replace hb := of_decide_eq_false hb | replace hb := bne_t hb | replace hb := bne_f hb | skip); all_goals (try (exfalso; omega))))
        all_goals first
          | (exfalso; omega)
          | (apply ret1; exact rfl; exact rfl)
          | skip
end Go.Proofs.Ytiefkpfamkkapaa
