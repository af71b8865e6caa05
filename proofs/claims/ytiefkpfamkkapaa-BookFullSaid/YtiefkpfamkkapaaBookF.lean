/- What the statement BookFull answers. Conditions stand in each statement. -/
import Derived.Test.YtiefkpfamkkapaaBook3
set_option linter.unusedSimpArgs false
set_option linter.unusedVariables false
namespace Go.Proofs.Ytiefkpfamkkapaa
open Go Go.Sl
attribute [local irreducible] AW ES EP Ld RetQ
set_option maxRecDepth 100000

def mkO (i : Int) : Order := ⟨i, i, 0, 2, 9, 1⟩
def fullO (n : Nat) : List Order := (List.range n).map fun (k : Nat) => mkO (k + 1)
theorem fullO_len (n : Nat) : (fullO n).length = n := by simp [fullO]
theorem mkO_ok {i : Int} (h : 1 ≤ i) : okO (mkO i) = true := by simp [okO, mkO, isB]; omega
theorem fullO_no {n : Nat} {i : Int} (h : (n : Int) < i) : idxOf (clashO (mkO i)) (fullO n) < 0 := by
  rw [idxOf_neg']
  intro x hx
  obtain ⟨k, hk, rfl⟩ := List.mem_map.1 hx
  have := List.mem_range.1 hk
  simp [clashO, mkO]; omega
theorem fullO_add {n : Nat} (h : n < 64) : addOE (mkO (n + 1)) (fullO n) = 0 ∧ addO (mkO (n + 1)) (fullO n) = fullO (n + 1) := by
  have h1 := fullO_no (n := n) (i := (n : Int) + 1) (by omega)
  have h2 := mkO_ok (i := (n : Int) + 1) (by omega)
  have h0 : addOE (mkO (n + 1)) (fullO n) = 0 := by
    unfold addOE
    rw [if_neg (by rw [h2]; simp; omega), if_neg (by rw [fullO_len]; omega)]
  refine ⟨h0, ?_⟩
  unfold addO
  rw [if_pos h0]
  simp [fullO, List.range_succ]
theorem fullO_full {i : Int} (h : 64 < i) : addOE (mkO i) (fullO 64) = 3 ∧ addO (mkO i) (fullO 64) = fullO 64 := by
  have h1 := fullO_no (n := 64) (i := i) (by omega)
  have h2 := mkO_ok (i := i) (by omega)
  have h0 : addOE (mkO i) (fullO 64) = 3 := by
    unfold addOE
    rw [if_neg (by rw [h2]; simp; omega), if_pos (by rw [fullO_len]; omega)]
  exact ⟨h0, by unfold addO; rw [if_neg (by omega)]⟩
def dropL : List Order := dropO 7 (fullO 64)
def lastO : Order := ⟨1000, 1000, 0, 1, 9, 1⟩
def lastL : List Order := addO lastO dropL
theorem fullO_end : getO 7 (fullO 64) = some (mkO 7) ∧ addOE lastO dropL = 0 ∧ lastL.length = 64 ∧ dropL.length = 63 := by decide +kernel

set_option maxHeartbeats 2000000 in
theorem book_Full (W : World) (more : Int) : FSpec Try.prog W 6 [.int .i64 more] [] (fun v _ => v = .bool true) := by
  refine spec_body Try.func6 rfl rfl Try.results6 Try.ntmps6 rfl rfl ?_
  by_cases h0 : more < 0 ∨ more > 20
  · repeat' (first
      | apply aw_seq | apply aw_region | apply aw_ret | apply aw_skip | apply aw_exit | apply aw_block | apply es_nil
      | (apply es_pure hT; (iterate 4 exact rfl)) | (apply es_skip; (iterate 3 exact rfl)) | (apply es_skip0; (iterate 2 exact rfl))
      | (apply es_i64 hT; (iterate 4 exact rfl); (iterate 2 omega))
      | (apply aw_draw [] [] hmix; decide +kernel)
      | (apply es_load; (iterate 5 exact rfl); first | exact ld_blk hT rfl rfl mem0 rfl rfl | exact ld_all hT rfl rfl mem0 rfl)
      | (apply es_load; (iterate 5 exact rfl); first | exact ld_blk hT rfl rfl mem1 rfl rfl | exact ld_all hT rfl rfl mem1 rfl)
      | (apply es_load; (iterate 5 exact rfl); first | exact ld_blk hT rfl rfl mem2 rfl rfl | exact ld_all hT rfl rfl mem2 rfl)
      | (apply es_box; (iterate 5 exact rfl); intro _) | (apply es_alloc hT; (iterate 5 exact rfl); intro _)
      | (apply aw_condT; (iterate 2 exact rfl)) | (apply aw_condF; (iterate 2 exact rfl))
      | (apply es_case; exact rfl; all_goals intro hb; all_goals (try simp only [hb]); all_goals (first | replace hb := of_decide_eq_true hb | replace hb := of_decide_eq_false hb | replace hb := bne_t hb | replace hb := bne_f hb | skip); all_goals (try (exfalso; omega)))
      | (apply aw_cond; exact rfl; all_goals intro hb; all_goals (try simp only [hb]); all_goals (first | replace hb := of_decide_eq_true hb | replace hb := of_decide_eq_false hb | replace hb := bne_t hb | replace hb := bne_f hb | skip); all_goals (try (exfalso; omega))))
    all_goals first
      | (exfalso; omega)
      | (apply ret1; exact rfl; exact rfl)
  obtain ⟨m, rfl⟩ := Int.eq_ofNat_of_zero_le (show 0 ≤ more by omega)
  have q1 : decide ((m : Int) < 0) = false := by simp
  have q2 : decide ((m : Int) > 20) = false := by simp; omega
  repeat' (first
    | apply aw_seq | apply aw_region | apply aw_ret | apply aw_skip | apply aw_exit | apply aw_block | apply es_nil
    | (apply es_pure hT; (iterate 4 exact rfl)) | (apply es_skip; (iterate 3 exact rfl)) | (apply es_skip0; (iterate 2 exact rfl))
    | (apply es_i64 hT; (iterate 4 exact rfl); (iterate 2 omega))
    | (apply aw_draw [] [] hmix; decide +kernel)
    | (apply es_call (hs := (book_New W _)); (iterate 7 exact rfl); rintro _ _ ⟨p, A, c, rfl, rfl⟩)
    | (apply es_load; (iterate 5 exact rfl); first | exact ld_blk hT rfl rfl mem0 rfl rfl | exact ld_all hT rfl rfl mem0 rfl)
    | (apply es_load; (iterate 5 exact rfl); first | exact ld_blk hT rfl rfl mem1 rfl rfl | exact ld_all hT rfl rfl mem1 rfl)
    | (apply es_load; (iterate 5 exact rfl); first | exact ld_blk hT rfl rfl mem2 rfl rfl | exact ld_all hT rfl rfl mem2 rfl)
    | (apply es_box; (iterate 5 exact rfl); intro _) | (apply es_alloc hT; (iterate 5 exact rfl); intro _)
    | (apply aw_condT; (iterate 2 exact rfl)) | (apply aw_condF; (iterate 2 exact rfl))
    | (apply es_case; exact rfl; all_goals intro hb; all_goals (try simp only [hb]); all_goals (first | replace hb := of_decide_eq_true hb | replace hb := of_decide_eq_false hb | replace hb := bne_t hb | replace hb := bne_f hb | skip); all_goals (try (exfalso; omega)))
    | (apply aw_cond; exact rfl; all_goals intro hb; all_goals (try simp only [hb]); all_goals (first | replace hb := of_decide_eq_true hb | replace hb := of_decide_eq_false hb | replace hb := bne_t hb | replace hb := bne_f hb | skip); all_goals (try (exfalso; omega))))
  all_goals try (exfalso; omega)
  refine aw_loop (α := Nat × Option Addr × Nat) (E := fun x => [(0, .int .i64 m), (3, .pointer (some ⟨p, 0, none⟩)), (4, .int .i64 (x.1 + 1 : Nat))]) (H := fun x => bookTab p x.2.1 x.2.2 (fullO (min x.1 64)) []) (μ := fun x => 64 + m - x.1)
    (S := fun x => x.1 ≤ 64 + m) (0, A, c) (J := []) (Nat.zero_le _) ⟨rfl, rfl, rfl, trivial⟩ (List.Perm.refl _) ?_
  rintro ⟨k, A1, c1⟩ hk
  dsimp only at hk ⊢
  by_cases hlt : k < 64 + m
  · have hd : decide (((k + 1 : Nat) : Int) ≤ 64 + (m : Int)) = true := by simp; omega
    obtain ⟨e, l', he, hadd, hl', hiff⟩ : ∃ (e : Int) (l' : List Order), addOE (mkO (k + 1 : Nat)) (fullO (min k 64)) = e ∧ addO (mkO (k + 1 : Nat)) (fullO (min k 64)) = l' ∧ l' = fullO (min (k + 1) 64) ∧ ((e = 0 ∧ k < 64) ∨ (e = 3 ∧ ¬ k < 64)) := by
      by_cases hk3 : k < 64
      · have := fullO_add hk3
        rw [show min k 64 = k by omega, show min (k + 1) 64 = k + 1 by omega]
        exact ⟨0, fullO (k + 1), by simpa using this.1, by simpa using this.2, rfl, .inl ⟨rfl, hk3⟩⟩
      · have := fullO_full (i := ((k + 1 : Nat) : Int)) (by omega)
        rw [show min k 64 = 64 by omega, show min (k + 1) 64 = 64 by omega]
        exact ⟨3, fullO 64, this.1, this.2, rfl, .inr ⟨rfl, hk3⟩⟩
    have hc := fun F => book_AddB W p (fullO (min k 64)) (mkO (k + 1 : Nat)) e l' (by rw [fullO_len]; omega) he hadd F A1 c1
    rcases hiff with ⟨rfl, h3⟩ | ⟨rfl, h3⟩
    · have hd2 : decide (((k + 1 : Nat) : Int) ≤ 64) = true := by simp; omega
      repeat' (first
        | apply aw_seq | apply aw_region | apply aw_ret | apply aw_skip | apply aw_exit | apply aw_block | apply es_nil
        | (apply es_pure hT; (iterate 4 exact rfl)) | (apply es_skip; (iterate 3 exact rfl)) | (apply es_skip0; (iterate 2 exact rfl))
        | (apply es_i64 hT; (iterate 4 exact rfl); (iterate 2 omega))
        | (apply aw_draw [] [] hmix; decide +kernel)
        | (apply es_build hT; (iterate 4 exact rfl))
        | (apply es_call (hs := (hc _)); (iterate 7 exact rfl); rintro _ _ ⟨rfl, A2, c2, rfl⟩)
        | (apply es_load; (iterate 5 exact rfl); first | exact ld_blk hT rfl rfl mem0 rfl rfl | exact ld_all hT rfl rfl mem0 rfl)
        | (apply es_load; (iterate 5 exact rfl); first | exact ld_blk hT rfl rfl mem1 rfl rfl | exact ld_all hT rfl rfl mem1 rfl)
        | (apply es_load; (iterate 5 exact rfl); first | exact ld_blk hT rfl rfl mem2 rfl rfl | exact ld_all hT rfl rfl mem2 rfl)
        | (apply es_box; (iterate 5 exact rfl); intro _) | (apply es_alloc hT; (iterate 5 exact rfl); intro _)
        | (apply aw_condT; (iterate 2 exact rfl)) | (apply aw_condF; (iterate 2 exact rfl))
        | (apply es_case; exact rfl; all_goals intro hb; all_goals (try simp only [hb]); all_goals (first | replace hb := of_decide_eq_true hb | replace hb := of_decide_eq_false hb | replace hb := bne_t hb | replace hb := bne_f hb | skip); all_goals (try (exfalso; omega)))
        | (apply aw_cond; exact rfl; all_goals intro hb; all_goals (try simp only [hb]); all_goals (first | replace hb := of_decide_eq_true hb | replace hb := of_decide_eq_false hb | replace hb := bne_t hb | replace hb := bne_f hb | skip); all_goals (try (exfalso; omega))))
      all_goals first
        | exact loopq_end (k + 1, A2, c2) (by (try dsimp only); omega) (by (try dsimp only); omega) ⟨rfl, rfl, by (try dsimp only); first | rfl | omega, trivial⟩ (by rw [hl']; exact dt_end)
        | (exfalso; omega)
        | (exfalso; simp_all; done)
        | (exfalso; simp_all; omega)
    · have hd2 : decide (((k + 1 : Nat) : Int) ≤ 64) = false := by simp; omega
      repeat' (first
        | apply aw_seq | apply aw_region | apply aw_ret | apply aw_skip | apply aw_exit | apply aw_block | apply es_nil
        | (apply es_pure hT; (iterate 4 exact rfl)) | (apply es_skip; (iterate 3 exact rfl)) | (apply es_skip0; (iterate 2 exact rfl))
        | (apply es_i64 hT; (iterate 4 exact rfl); (iterate 2 omega))
        | (apply aw_draw [] [] hmix; decide +kernel)
        | (apply es_build hT; (iterate 4 exact rfl))
        | (apply es_call (hs := (hc _)); (iterate 7 exact rfl); rintro _ _ ⟨rfl, A2, c2, rfl⟩)
        | (apply es_load; (iterate 5 exact rfl); first | exact ld_blk hT rfl rfl mem0 rfl rfl | exact ld_all hT rfl rfl mem0 rfl)
        | (apply es_load; (iterate 5 exact rfl); first | exact ld_blk hT rfl rfl mem1 rfl rfl | exact ld_all hT rfl rfl mem1 rfl)
        | (apply es_load; (iterate 5 exact rfl); first | exact ld_blk hT rfl rfl mem2 rfl rfl | exact ld_all hT rfl rfl mem2 rfl)
        | (apply es_box; (iterate 5 exact rfl); intro _) | (apply es_alloc hT; (iterate 5 exact rfl); intro _)
        | (apply aw_condT; (iterate 2 exact rfl)) | (apply aw_condF; (iterate 2 exact rfl))
        | (apply es_case; exact rfl; all_goals intro hb; all_goals (try simp only [hb]); all_goals (first | replace hb := of_decide_eq_true hb | replace hb := of_decide_eq_false hb | replace hb := bne_t hb | replace hb := bne_f hb | skip); all_goals (try (exfalso; omega)))
        | (apply aw_cond; exact rfl; all_goals intro hb; all_goals (try simp only [hb]); all_goals (first | replace hb := of_decide_eq_true hb | replace hb := of_decide_eq_false hb | replace hb := bne_t hb | replace hb := bne_f hb | skip); all_goals (try (exfalso; omega))))
      all_goals first
        | exact loopq_end (k + 1, A2, c2) (by (try dsimp only); omega) (by (try dsimp only); omega) ⟨rfl, rfl, by (try dsimp only); first | rfl | omega, trivial⟩ (by rw [hl']; exact dt_end)
        | (exfalso; omega)
        | (exfalso; simp_all; done)
        | (exfalso; simp_all; omega)
  · obtain rfl : k = 64 + m := by omega
    have hd : decide (((64 + m + 1 : Nat) : Int) ≤ 64 + (m : Int)) = false := by simp; omega
    have hm32 : min (64 + m) 64 = 64 := by omega
    rw [hm32]
    obtain ⟨f1, f2, f3, f4⟩ := fullO_end
    have hdrop := fun F => book_Drop W F p A1 c1 (fullO 64) 7 (by rw [fullO_len]; omega)
    rw [f1] at hdrop
    dsimp only [gotO] at hdrop
    have hadd := fun F A c => book_AddB W p dropL lastO 0 lastL (by omega) f2 rfl F A c
    have hlen := fun A c => book_Len W p A c lastL
    rw [f3] at hlen
    have hkn := book_known W
    have hnil := book_AddNil W zeroO
    repeat' (first
      | apply aw_seq | apply aw_region | apply aw_ret | apply aw_skip | apply aw_exit | apply aw_block | apply es_nil
      | (apply es_pure hT; (iterate 4 exact rfl)) | (apply es_skip; (iterate 3 exact rfl)) | (apply es_skip0; (iterate 2 exact rfl))
      | (apply es_i64 hT; (iterate 4 exact rfl); (iterate 2 omega))
      | (apply aw_draw [] [] hmix; decide +kernel)
      | (apply es_call (hs := (hdrop _)); (iterate 7 exact rfl); rintro _ _ ⟨rfl, A2, c2, rfl⟩)
      | (apply es_alloc hT; (iterate 5 exact rfl); intro g8)
      | (apply es_store hT; (iterate 6 exact rfl); exact sel0; (iterate 3 exact rfl); exact Nat.le_of_ble_eq_true rfl)
      | (apply es_build hT; (iterate 4 exact rfl))
      | (apply es_call (hs := ((hadd (_ :: []) _ _).perm (selS (selS sel0)).symm)); (iterate 7 exact rfl); rintro _ _ ⟨rfl, A3, c3, rfl⟩)
      | (apply es_callQ (hs := ((hlen _ _).mono (memPairB mem0 mem1))); (iterate 7 exact rfl))
      | (apply es_callQ (hs := (hnil.mono (by simp))); (iterate 7 exact rfl))
      | (apply es_callQ (hs := ((book_SideNil W 1).mono (by simp))); (iterate 7 exact rfl))
      | (apply es_callQ (hs := ((book_LenNil W).mono (by simp))); (iterate 7 exact rfl))
      | (apply es_callQ (hs := (hkn.mono (by simp))); (iterate 7 exact rfl))
      | (apply es_load; (iterate 5 exact rfl); first | exact ld_blk hT rfl rfl mem0 rfl rfl | exact ld_all hT rfl rfl mem0 rfl)
      | (apply es_load; (iterate 5 exact rfl); first | exact ld_blk hT rfl rfl mem1 rfl rfl | exact ld_all hT rfl rfl mem1 rfl)
      | (apply es_load; (iterate 5 exact rfl); first | exact ld_blk hT rfl rfl mem2 rfl rfl | exact ld_all hT rfl rfl mem2 rfl)
      | (apply es_load; (iterate 5 exact rfl); first | exact ld_blk hT rfl rfl mem0 rfl rfl | exact ld_all hT rfl rfl mem0 rfl)
      | (apply es_load; (iterate 5 exact rfl); first | exact ld_blk hT rfl rfl (List.mem_cons_of_mem _ mem0) rfl rfl | exact ld_all hT rfl rfl (List.mem_cons_of_mem _ mem0) rfl)
      | (apply es_load; (iterate 5 exact rfl); first | exact ld_blk hT rfl rfl (List.mem_cons_of_mem _ (List.mem_cons_of_mem _ mem0)) rfl rfl | exact ld_all hT rfl rfl (List.mem_cons_of_mem _ (List.mem_cons_of_mem _ mem0)) rfl)
      | (apply es_load; (iterate 5 exact rfl); first | exact ld_blk hT rfl rfl mem1 rfl rfl | exact ld_all hT rfl rfl mem1 rfl)
      | (apply es_load; (iterate 5 exact rfl); first | exact ld_blk hT rfl rfl (List.mem_cons_of_mem _ mem1) rfl rfl | exact ld_all hT rfl rfl (List.mem_cons_of_mem _ mem1) rfl)
      | (apply es_load; (iterate 5 exact rfl); first | exact ld_blk hT rfl rfl (List.mem_cons_of_mem _ (List.mem_cons_of_mem _ mem1)) rfl rfl | exact ld_all hT rfl rfl (List.mem_cons_of_mem _ (List.mem_cons_of_mem _ mem1)) rfl)
      | (apply es_box; (iterate 5 exact rfl); intro _) | (apply es_alloc hT; (iterate 5 exact rfl); intro _)
      | (apply aw_condT; (iterate 2 exact rfl)) | (apply aw_condF; (iterate 2 exact rfl))
      | (apply es_case; exact rfl; all_goals intro hb; all_goals (try simp only [hb]); all_goals (first | replace hb := of_decide_eq_true hb | replace hb := of_decide_eq_false hb | replace hb := bne_t hb | replace hb := bne_f hb | skip); all_goals (try (exfalso; omega)))
      | (apply aw_cond; exact rfl; all_goals intro hb; all_goals (try simp only [hb]); all_goals (first | replace hb := of_decide_eq_true hb | replace hb := of_decide_eq_false hb | replace hb := bne_t hb | replace hb := bne_f hb | skip); all_goals (try (exfalso; omega))))
    apply ret1; exact rfl; exact rfl
end Go.Proofs.Ytiefkpfamkkapaa
