/- What the statement GateOne answers. Conditions stand in each statement. -/
import Derived.Test.YtiefkpfamkkapaaGateS
set_option linter.unusedSimpArgs false
set_option linter.unusedVariables false
namespace Go.Proofs.Ytiefkpfamkkapaa
open Go Go.Sl
attribute [local irreducible] AW ES EP Ld RetQ
set_option maxRecDepth 100000

theorem side_one (s : Int) (o : Order) : sideO s [o] = if o.side = s then [o] else [] := by
  unfold sideO
  by_cases h : o.side = s
  · rw [if_pos h]; simp [isSide, h, insO]
  · rw [if_neg h]; simp [isSide, h]
theorem check_other (s p qty : Int) (o : Order) (hs : isB s = true) (hp : 1 ≤ p) (hq : 1 ≤ qty) (ho : o.side ≠ otherB s) : checkV s p qty [o] = 0 := by
  unfold checkV
  rw [if_neg (by rw [hs]; simp; omega)]
  have : sweepS (otherB s) [o] qty = none := by
    unfold sweepS allS
    rw [side_one, if_neg ho]
    rw [if_pos (by right; simp [totL]; omega)]
  rw [this]
theorem check_one (s p qty : Int) (o : Order) (hs : isB s = true) (hp : 1 ≤ p) (hq : 1 ≤ qty) (hpr : 1 ≤ o.price) (ho : o.side = otherB s) :
    checkV s p qty [o] = if ((s = 1 ∧ p > o.price) ∨ (s = 2 ∧ p < o.price)) ∧ qty ≤ o.left then 13 else 0 := by
  unfold checkV
  rw [if_neg (by rw [hs]; simp; omega)]
  by_cases hl : qty ≤ o.left
  · have : sweepS (otherB s) [o] qty = some (o.price * qty).toNat := by
      unfold sweepS allS
      rw [side_one, if_pos ho]
      rw [if_neg (by simp [totL, pqO]; omega)]
      show some (costL [(o.price, o.left)] qty).toNat = _
      rw [costL_one, show min qty o.left = qty by omega]
    rw [this]
    dsimp only
    have h0 : 0 ≤ o.price * qty := Int.mul_nonneg (by omega) (by omega)
    have h1 : 0 ≤ p * qty := Int.mul_nonneg (by omega) (by omega)
    have k1 : p > o.price ↔ (o.price * qty).toNat < (p * qty).toNat := by
      constructor
      · intro h
        have := Int.mul_lt_mul_of_pos_right h (show 0 < qty by omega)
        omega
      · intro h
        rcases Int.lt_or_le o.price p with h2 | h2
        · exact h2
        · have := Int.mul_le_mul_of_nonneg_right h2 (show 0 ≤ qty by omega); omega
    have k2 : p < o.price ↔ (p * qty).toNat < (o.price * qty).toNat := by
      constructor
      · intro h
        have := Int.mul_lt_mul_of_pos_right h (show 0 < qty by omega)
        omega
      · intro h
        rcases Int.lt_or_le p o.price with h2 | h2
        · exact h2
        · have := Int.mul_le_mul_of_nonneg_right h2 (show 0 ≤ qty by omega); omega
    simp only [k1, k2, hl, and_true]
  · have : sweepS (otherB s) [o] qty = none := by
      unfold sweepS allS
      rw [side_one, if_pos ho]
      rw [if_pos (by right; simp [totL, pqO]; omega)]
    rw [this]
    simp [hl]
theorem book_one {o : Order} (h : okO o = true) : bookOf [o] = [o] := by
  have e : addOE o [] = 0 := by simp [addOE, h, idxOf]
  show addO o [] = [o]
  unfold addO
  rw [if_pos e]; rfl

set_option maxHeartbeats 4000000 in
theorem gate_One (W : World) (sell : Bool) (price left p qty : Int) :
    FSpec Try.prog W 14 [.bool sell, .int .i64 price, .int .i64 left, .int .i64 p, .int .i64 qty] [] (fun v _ => v = .bool true) := by
  refine spec_body Try.func14 rfl rfl Try.results14 Try.ntmps14 rfl rfl ?_
  by_cases hbad : price < 1 ∨ price > 1000000 ∨ left < 1 ∨ left > 1000000 ∨ p < 1 ∨ p > 1000000 ∨ qty < 1 ∨ qty > 1000000
  · repeat' (first
      | apply aw_seq | apply aw_region | apply aw_ret | apply aw_skip | apply aw_exit | apply aw_block | apply es_nil
      | (apply es_pure hT; (iterate 4 exact rfl)) | (apply es_skip; (iterate 3 exact rfl)) | (apply es_skip0; (iterate 2 exact rfl))
      | (apply es_i64 hT; (iterate 4 exact rfl); (iterate 2 omega))
      | (apply aw_draw [] [] hmix; decide +kernel)
      | (apply es_load; (iterate 5 exact rfl); first | (apply ld_blk hT; exact rfl; exact rfl; (repeat (first | exact List.mem_cons_self | apply List.mem_cons_of_mem)); exact rfl; exact rfl) | (apply ld_all hT; exact rfl; exact rfl; (repeat (first | exact List.mem_cons_self | apply List.mem_cons_of_mem)); exact rfl))
      | (apply es_box; (iterate 5 exact rfl); intro _) | (apply es_alloc hT; (iterate 5 exact rfl); intro _)
      | (apply aw_condT; (iterate 2 exact rfl)) | (apply aw_condF; (iterate 2 exact rfl))
      | (apply es_case; exact rfl; all_goals intro hb; all_goals (try simp only [hb]); all_goals (first | replace hb := of_decide_eq_true hb | replace hb := of_decide_eq_false hb | replace hb := bne_t hb | replace hb := bne_f hb | skip); all_goals (try (exfalso; omega)))
      | (apply aw_cond; exact rfl; all_goals intro hb; all_goals (try simp only [hb]); all_goals (first | replace hb := of_decide_eq_true hb | replace hb := of_decide_eq_false hb | replace hb := bne_t hb | replace hb := bne_f hb | skip); all_goals (try (exfalso; omega))))
    all_goals first
      | (exfalso; omega)
      | (apply ret1; exact rfl; exact rfl)
  have hkn := gate_known W
  have hboth : ∀ o : Order, okO o = true → ∀ g h, Chunk.own (some ⟨g, 0, none⟩) 1 1 29 6 (([o] : List Order).flatMap Order.enc) ∈ h → FSpec Try.prog W 56 [.slice (some ⟨g, 0, none⟩) 1 1] h (fun v h' => ∃ p A c q A' c', v = .tuple #[.pointer (some ⟨p, 0, none⟩), .pointer (some ⟨q, 0, none⟩)] ∧ h' = bookTab p A c [o] (refB q A' c' [o] h)) := fun o ho g h hm => by
    have := both19 W h (some ⟨g, 0, none⟩) 1 [o] (Reads.own hm rfl (by simpa using o.enc_one)) (by simp)
    rw [book_one ho] at this
    exact this
  cases sell
  · have hok : okO ⟨1, 1, 0, 2, price, left⟩ = true := by simp [okO, isB]; omega
    have hB := bookOf_B [⟨1, 1, 0, 2, price, left⟩]
    rw [book_one hok] at hB
    have hbo := hboth _ hok
    have hc1 := fun b A c => gate_Check W b A c [⟨1, 1, 0, 2, price, left⟩] 1 p qty hB (by omega) (by omega)
    have hc2 := fun b A c => gate_Check W b A c [⟨1, 1, 0, 2, price, left⟩] 2 p qty hB (by omega) (by omega)
    rw [check_one 1 p qty _ rfl (by omega) (by omega) (by dsimp only; omega) rfl] at hc1
    rw [check_other 2 p qty _ rfl (by omega) (by omega) (by simp [otherB, isB])] at hc2
    by_cases hw : p > price ∧ qty ≤ left
    · rw [if_pos (by dsimp only; omega)] at hc1
      repeat' (first
        | (apply es_sameB hT; (iterate 5 exact rfl))
        | apply aw_seq | apply aw_region | apply aw_ret | apply aw_skip | apply aw_exit | apply aw_block | apply es_nil
        | (apply es_pure hT; (iterate 4 exact rfl)) | (apply es_skip; (iterate 3 exact rfl)) | (apply es_skip0; (iterate 2 exact rfl))
        | (apply es_i64 hT; (iterate 4 exact rfl); (iterate 2 omega))
        | (apply aw_draw [] [] hmix; decide +kernel)
        | (apply es_build hT; (iterate 4 exact rfl))
        | (apply es_alloc hT; (iterate 5 exact rfl); intro g11)
        | (apply es_buildSlice hT; (iterate 12 exact rfl); intro g)
        | (apply es_call (hs := (hbo _ _ mem0)); (iterate 7 exact rfl); rintro _ _ ⟨b, A, c, q, A', c', rfl, rfl⟩)
        | (apply es_callQ (hs := ((hc1 b A c).mono (memPairB mem0 mem1))); (iterate 7 exact rfl))
        | (apply es_callQ (hs := ((hc2 b A c).mono (memPairB mem0 mem1))); (iterate 7 exact rfl))
        | (apply es_callQ (hs := (hkn.mono (by simp))); (iterate 7 exact rfl))
        | (apply es_store hT; (iterate 6 exact rfl); (repeat (first | exact sel0 | apply selS)); (iterate 3 exact rfl); exact Nat.le_of_ble_eq_true rfl)
        | (apply es_load; (iterate 5 exact rfl); first | (apply ld_blk hT; exact rfl; exact rfl; (repeat (first | exact List.mem_cons_self | apply List.mem_cons_of_mem)); exact rfl; exact rfl) | (apply ld_all hT; exact rfl; exact rfl; (repeat (first | exact List.mem_cons_self | apply List.mem_cons_of_mem)); exact rfl))
        | (apply es_box; (iterate 5 exact rfl); intro _) | (apply es_alloc hT; (iterate 5 exact rfl); intro _)
        | (apply aw_condT; (iterate 2 exact rfl)) | (apply aw_condF; (iterate 2 exact rfl))
        | (apply es_case; exact rfl; all_goals intro hb; all_goals (try simp only [hb]); all_goals (first | replace hb := of_decide_eq_true hb | replace hb := of_decide_eq_false hb | replace hb := bne_t hb | replace hb := bne_f hb | skip); all_goals (try (exfalso; omega)))
        | (apply aw_cond; exact rfl; all_goals intro hb; all_goals (try simp only [hb]); all_goals (first | replace hb := of_decide_eq_true hb | replace hb := of_decide_eq_false hb | replace hb := bne_t hb | replace hb := bne_f hb | skip); all_goals (try (exfalso; omega))))
      all_goals first
        | (exfalso; omega)
        | (apply ret1; exact rfl; exact rfl)
        | skip
    · rw [if_neg (by dsimp only; omega)] at hc1
      repeat' (first
        | (apply es_sameB hT; (iterate 5 exact rfl))
        | apply aw_seq | apply aw_region | apply aw_ret | apply aw_skip | apply aw_exit | apply aw_block | apply es_nil
        | (apply es_pure hT; (iterate 4 exact rfl)) | (apply es_skip; (iterate 3 exact rfl)) | (apply es_skip0; (iterate 2 exact rfl))
        | (apply es_i64 hT; (iterate 4 exact rfl); (iterate 2 omega))
        | (apply aw_draw [] [] hmix; decide +kernel)
        | (apply es_build hT; (iterate 4 exact rfl))
        | (apply es_alloc hT; (iterate 5 exact rfl); intro g11)
        | (apply es_buildSlice hT; (iterate 12 exact rfl); intro g)
        | (apply es_call (hs := (hbo _ _ mem0)); (iterate 7 exact rfl); rintro _ _ ⟨b, A, c, q, A', c', rfl, rfl⟩)
        | (apply es_callQ (hs := ((hc1 b A c).mono (memPairB mem0 mem1))); (iterate 7 exact rfl))
        | (apply es_callQ (hs := ((hc2 b A c).mono (memPairB mem0 mem1))); (iterate 7 exact rfl))
        | (apply es_callQ (hs := (hkn.mono (by simp))); (iterate 7 exact rfl))
        | (apply es_store hT; (iterate 6 exact rfl); (repeat (first | exact sel0 | apply selS)); (iterate 3 exact rfl); exact Nat.le_of_ble_eq_true rfl)
        | (apply es_load; (iterate 5 exact rfl); first | (apply ld_blk hT; exact rfl; exact rfl; (repeat (first | exact List.mem_cons_self | apply List.mem_cons_of_mem)); exact rfl; exact rfl) | (apply ld_all hT; exact rfl; exact rfl; (repeat (first | exact List.mem_cons_self | apply List.mem_cons_of_mem)); exact rfl))
        | (apply es_box; (iterate 5 exact rfl); intro _) | (apply es_alloc hT; (iterate 5 exact rfl); intro _)
        | (apply aw_condT; (iterate 2 exact rfl)) | (apply aw_condF; (iterate 2 exact rfl))
        | (apply es_case; exact rfl; all_goals intro hb; all_goals (try simp only [hb]); all_goals (first | replace hb := of_decide_eq_true hb | replace hb := of_decide_eq_false hb | replace hb := bne_t hb | replace hb := bne_f hb | skip); all_goals (try (exfalso; omega)))
        | (apply aw_cond; exact rfl; all_goals intro hb; all_goals (try simp only [hb]); all_goals (first | replace hb := of_decide_eq_true hb | replace hb := of_decide_eq_false hb | replace hb := bne_t hb | replace hb := bne_f hb | skip); all_goals (try (exfalso; omega))))
      all_goals first
        | (exfalso; omega)
        | (apply ret1; exact rfl; exact rfl)
        | skip
  · have hok : okO ⟨1, 1, 0, 1, price, left⟩ = true := by simp [okO, isB]; omega
    have hB := bookOf_B [⟨1, 1, 0, 1, price, left⟩]
    rw [book_one hok] at hB
    have hbo := hboth _ hok
    have hc1 := fun b A c => gate_Check W b A c [⟨1, 1, 0, 1, price, left⟩] 2 p qty hB (by omega) (by omega)
    have hc2 := fun b A c => gate_Check W b A c [⟨1, 1, 0, 1, price, left⟩] 1 p qty hB (by omega) (by omega)
    rw [check_one 2 p qty _ rfl (by omega) (by omega) (by dsimp only; omega) rfl] at hc1
    rw [check_other 1 p qty _ rfl (by omega) (by omega) (by simp [otherB, isB])] at hc2
    by_cases hw : p < price ∧ qty ≤ left
    · rw [if_pos (by dsimp only; omega)] at hc1
      repeat' (first
        | (apply es_sameB hT; (iterate 5 exact rfl))
        | apply aw_seq | apply aw_region | apply aw_ret | apply aw_skip | apply aw_exit | apply aw_block | apply es_nil
        | (apply es_pure hT; (iterate 4 exact rfl)) | (apply es_skip; (iterate 3 exact rfl)) | (apply es_skip0; (iterate 2 exact rfl))
        | (apply es_i64 hT; (iterate 4 exact rfl); (iterate 2 omega))
        | (apply aw_draw [] [] hmix; decide +kernel)
        | (apply es_build hT; (iterate 4 exact rfl))
        | (apply es_alloc hT; (iterate 5 exact rfl); intro g11)
        | (apply es_buildSlice hT; (iterate 12 exact rfl); intro g)
        | (apply es_call (hs := (hbo _ _ mem0)); (iterate 7 exact rfl); rintro _ _ ⟨b, A, c, q, A', c', rfl, rfl⟩)
        | (apply es_callQ (hs := ((hc1 b A c).mono (memPairB mem0 mem1))); (iterate 7 exact rfl))
        | (apply es_callQ (hs := ((hc2 b A c).mono (memPairB mem0 mem1))); (iterate 7 exact rfl))
        | (apply es_callQ (hs := (hkn.mono (by simp))); (iterate 7 exact rfl))
        | (apply es_store hT; (iterate 6 exact rfl); (repeat (first | exact sel0 | apply selS)); (iterate 3 exact rfl); exact Nat.le_of_ble_eq_true rfl)
        | (apply es_load; (iterate 5 exact rfl); first | (apply ld_blk hT; exact rfl; exact rfl; (repeat (first | exact List.mem_cons_self | apply List.mem_cons_of_mem)); exact rfl; exact rfl) | (apply ld_all hT; exact rfl; exact rfl; (repeat (first | exact List.mem_cons_self | apply List.mem_cons_of_mem)); exact rfl))
        | (apply es_box; (iterate 5 exact rfl); intro _) | (apply es_alloc hT; (iterate 5 exact rfl); intro _)
        | (apply aw_condT; (iterate 2 exact rfl)) | (apply aw_condF; (iterate 2 exact rfl))
        | (apply es_case; exact rfl; all_goals intro hb; all_goals (try simp only [hb]); all_goals (first | replace hb := of_decide_eq_true hb | replace hb := of_decide_eq_false hb | replace hb := bne_t hb | replace hb := bne_f hb | skip); all_goals (try (exfalso; omega)))
        | (apply aw_cond; exact rfl; all_goals intro hb; all_goals (try simp only [hb]); all_goals (first | replace hb := of_decide_eq_true hb | replace hb := of_decide_eq_false hb | replace hb := bne_t hb | replace hb := bne_f hb | skip); all_goals (try (exfalso; omega))))
      all_goals first
        | (exfalso; omega)
        | (apply ret1; exact rfl; exact rfl)
        | skip
    · rw [if_neg (by dsimp only; omega)] at hc1
      repeat' (first
        | (apply es_sameB hT; (iterate 5 exact rfl))
        | apply aw_seq | apply aw_region | apply aw_ret | apply aw_skip | apply aw_exit | apply aw_block | apply es_nil
        | (apply es_pure hT; (iterate 4 exact rfl)) | (apply es_skip; (iterate 3 exact rfl)) | (apply es_skip0; (iterate 2 exact rfl))
        | (apply es_i64 hT; (iterate 4 exact rfl); (iterate 2 omega))
        | (apply aw_draw [] [] hmix; decide +kernel)
        | (apply es_build hT; (iterate 4 exact rfl))
        | (apply es_alloc hT; (iterate 5 exact rfl); intro g11)
        | (apply es_buildSlice hT; (iterate 12 exact rfl); intro g)
        | (apply es_call (hs := (hbo _ _ mem0)); (iterate 7 exact rfl); rintro _ _ ⟨b, A, c, q, A', c', rfl, rfl⟩)
        | (apply es_callQ (hs := ((hc1 b A c).mono (memPairB mem0 mem1))); (iterate 7 exact rfl))
        | (apply es_callQ (hs := ((hc2 b A c).mono (memPairB mem0 mem1))); (iterate 7 exact rfl))
        | (apply es_callQ (hs := (hkn.mono (by simp))); (iterate 7 exact rfl))
        | (apply es_store hT; (iterate 6 exact rfl); (repeat (first | exact sel0 | apply selS)); (iterate 3 exact rfl); exact Nat.le_of_ble_eq_true rfl)
        | (apply es_load; (iterate 5 exact rfl); first | (apply ld_blk hT; exact rfl; exact rfl; (repeat (first | exact List.mem_cons_self | apply List.mem_cons_of_mem)); exact rfl; exact rfl) | (apply ld_all hT; exact rfl; exact rfl; (repeat (first | exact List.mem_cons_self | apply List.mem_cons_of_mem)); exact rfl))
        | (apply es_box; (iterate 5 exact rfl); intro _) | (apply es_alloc hT; (iterate 5 exact rfl); intro _)
        | (apply aw_condT; (iterate 2 exact rfl)) | (apply aw_condF; (iterate 2 exact rfl))
        | (apply es_case; exact rfl; all_goals intro hb; all_goals (try simp only [hb]); all_goals (first | replace hb := of_decide_eq_true hb | replace hb := of_decide_eq_false hb | replace hb := bne_t hb | replace hb := bne_f hb | skip); all_goals (try (exfalso; omega)))
        | (apply aw_cond; exact rfl; all_goals intro hb; all_goals (try simp only [hb]); all_goals (first | replace hb := of_decide_eq_true hb | replace hb := of_decide_eq_false hb | replace hb := bne_t hb | replace hb := bne_f hb | skip); all_goals (try (exfalso; omega))))
      all_goals first
        | (exfalso; omega)
        | (apply ret1; exact rfl; exact rfl)
        | skip
end Go.Proofs.Ytiefkpfamkkapaa
