/- What the statement AskFull answers. Conditions stand in each statement. -/
import Derived.Test.YtmoglacdddinjaaAsk5
set_option linter.unusedSimpArgs false
set_option linter.unusedVariables false
namespace Go.Proofs.Ytmoglacdddinjaa
open Go Go.Sl
attribute [local irreducible] AW ES EP Ld RetQ
set_option maxRecDepth 100000

def mkA (i : Int) : AskR := ⟨i, 0, 0, 1, 1, 1, 0, 0, 1, 0⟩
def fullA (n : Nat) : List AskR := (List.range n).map fun (k : Nat) => mkA (k + 1)
theorem fullA_len (n : Nat) : (fullA n).length = n := by simp [fullA]
theorem fullA_at {n i : Nat} (h : i < n) : (fullA n)[i]? = some (mkA (i + 1)) := by simp [fullA, h]
theorem fullA_up (n : Nat) : upA (fullA n) := by
  unfold upA
  rw [List.pairwise_iff_getElem]
  intro i j hi hj hij
  rw [fullA_len] at hi hj
  have e1 := (List.getElem?_eq_some_iff.1 (fullA_at hi)).2
  have e2 := (List.getElem?_eq_some_iff.1 (fullA_at hj)).2
  rw [e1, e2]
  simp only [mkA]; omega
theorem fullA_bs {n : Nat} {id : Int} (h : (n : Int) < id) : bsN (cA id) (fullA n) = n ∧ bsB (cA id) (fullA n) = false := by
  have h1 : bsN (cA id) (fullA n) = n := bsN_eq (by rw [fullA_len]; omega) (fun k y hk hy => by
    rw [fullA_at hk] at hy
    obtain rfl := Option.some.inj hy
    rw [cA_neg]; simp only [mkA]; omega) (fun y hy => by
    have := (List.getElem?_eq_some_iff.1 hy).1
    rw [fullA_len] at this; omega)
  refine ⟨h1, ?_⟩
  unfold bsB
  rw [h1]
  have : (fullA n)[n]? = none := by simp [fullA]
  rw [this]
theorem fullA_many (n : Nat) : manyA (fullA n) = n := by
  unfold manyA
  have : (fullA n).filter onA = fullA n := by
    rw [List.filter_eq_self]
    intro x hx
    obtain ⟨k, _, rfl⟩ := List.mem_map.1 hx
    rfl
  rw [this, fullA_len]
theorem newA_mk {i : Int} (h : 1 ≤ i) : newA (mkA i) = true := by simp [newA, mkA]; omega
theorem fullA_add {n : Nat} (h : n < 32) : addE (mkA (n + 1)) (fullA n) = 0 ∧ addA (mkA (n + 1)) (fullA n) = fullA (n + 1) := by
  have hb := fullA_bs (n := n) (id := (n : Int) + 1) (by omega)
  have h0 : addE (mkA (n + 1)) (fullA n) = 0 := by
    unfold addE
    rw [show (mkA ((n : Int) + 1)).id = (n : Int) + 1 from rfl, hb.2, newA_mk (by omega), fullA_many]
    simp; omega
  refine ⟨h0, ?_⟩
  unfold addA
  rw [if_pos h0, show (mkA ((n : Int) + 1)).id = (n : Int) + 1 from rfl, hb.1, List.take_of_length_le (by rw [fullA_len]; omega), List.drop_of_length_le (by rw [fullA_len]; omega)]
  simp [fullA, List.range_succ]
theorem fullA_full {i : Int} (h : 32 < i) : addE (mkA i) (fullA 32) = 3 ∧ addA (mkA i) (fullA 32) = fullA 32 := by
  have hb := fullA_bs (n := 32) (id := i) (by omega)
  have h0 : addE (mkA i) (fullA 32) = 3 := by
    unfold addE
    rw [show (mkA i).id = i from rfl, hb.2, newA_mk (by omega), fullA_many]
    simp
  exact ⟨h0, by unfold addA; rw [if_neg (by omega)]⟩
def endL : List AskR := endA 3 4 (fullA 32)
def addL : List AskR := addA (mkA 1000) endL
theorem fullA_end : endE 3 4 (fullA 32) = 0 ∧ addE (mkA 1000) endL = 0 ∧ manyA addL = 32 ∧ addL.length = 33 ∧ endL.length = 32 := by decide +kernel
theorem endL_up : upA endL := by
  have e : endL.map AskR.id = (fullA 32).map AskR.id := by decide +kernel
  have h := fullA_up 32
  unfold upA at *
  rw [← List.pairwise_map (f := AskR.id) (R := (· < ·))] at h ⊢
  rw [e]; exact h

set_option maxHeartbeats 2000000 in
theorem ask_Full (W : World) (more : Int) : FSpec Try.prog W 10 [.int .i64 more] [] (fun v _ => v = .bool true) := by
  refine spec_body Try.func10 rfl rfl Try.results10 Try.ntmps10 rfl rfl ?_
  by_cases h0 : more < 0 ∨ more > 20
  · repeat' (first
      | apply aw_seq | apply aw_region | apply aw_ret | apply aw_skip | apply aw_exit | apply aw_block | apply es_nil
      | (apply es_pure hT; (iterate 4 exact rfl)) | (apply es_skip; (iterate 3 exact rfl)) | (apply es_skip0; (iterate 2 exact rfl))
      | (apply es_i64 hT; (iterate 4 exact rfl); (iterate 2 omega))
      | (apply aw_draw [] [] hmix; decide +kernel)
      | (apply es_load; (iterate 5 exact rfl); first | exact ld_blk hT rfl rfl mem0 rfl rfl | exact ld_all hT rfl rfl mem0 rfl)
      | (apply es_load; (iterate 5 exact rfl); first | exact ld_blk hT rfl rfl mem1 rfl rfl | exact ld_all hT rfl rfl mem1 rfl)
      | (apply es_load; (iterate 5 exact rfl); first | exact ld_blk hT rfl rfl mem2 rfl rfl | exact ld_all hT rfl rfl mem2 rfl)
      | (apply es_box; (iterate 5 exact rfl); intro _) | (apply es_alloc hT; (iterate 5 exact rfl); intro _)
      | (apply aw_condT; (iterate 2 exact rfl)) | (apply aw_condF; (iterate 2 exact rfl))
      | (apply es_case; exact rfl; all_goals intro hb; all_goals (try simp only [hb]); all_goals (first | replace hb := of_decide_eq_true hb | replace hb := of_decide_eq_false hb | replace hb := bne_t hb | replace hb := bne_f hb | skip); all_goals (try (exfalso; omega)))
      | (apply aw_cond; exact rfl; all_goals intro hb; all_goals (try simp only [hb]); all_goals (first | replace hb := of_decide_eq_true hb | replace hb := of_decide_eq_false hb | replace hb := bne_t hb | replace hb := bne_f hb | skip); all_goals (try (exfalso; omega))))
    all_goals first
      | (exfalso; omega)
      | (apply ret1; exact rfl; exact rfl)
  obtain ⟨m, rfl⟩ := Int.eq_ofNat_of_zero_le (show 0 ≤ more by omega)
  have q1 : decide ((m : Int) < 0) = false := by simp
  have q2 : decide ((m : Int) > 20) = false := by simp; omega
  repeat' (first
    | apply aw_seq | apply aw_region | apply aw_ret | apply aw_skip | apply aw_exit | apply aw_block | apply es_nil
    | (apply es_pure hT; (iterate 4 exact rfl)) | (apply es_skip; (iterate 3 exact rfl)) | (apply es_skip0; (iterate 2 exact rfl))
    | (apply es_i64 hT; (iterate 4 exact rfl); (iterate 2 omega))
    | (apply aw_draw [] [] hmix; decide +kernel)
    | (apply es_call (hs := (ask_New W _)); (iterate 7 exact rfl); rintro _ _ ⟨p, A, c, rfl, rfl⟩)
    | (apply es_load; (iterate 5 exact rfl); first | exact ld_blk hT rfl rfl mem0 rfl rfl | exact ld_all hT rfl rfl mem0 rfl)
    | (apply es_load; (iterate 5 exact rfl); first | exact ld_blk hT rfl rfl mem1 rfl rfl | exact ld_all hT rfl rfl mem1 rfl)
    | (apply es_load; (iterate 5 exact rfl); first | exact ld_blk hT rfl rfl mem2 rfl rfl | exact ld_all hT rfl rfl mem2 rfl)
    | (apply es_box; (iterate 5 exact rfl); intro _) | (apply es_alloc hT; (iterate 5 exact rfl); intro _)
    | (apply aw_condT; (iterate 2 exact rfl)) | (apply aw_condF; (iterate 2 exact rfl))
    | (apply es_case; exact rfl; all_goals intro hb; all_goals (try simp only [hb]); all_goals (first | replace hb := of_decide_eq_true hb | replace hb := of_decide_eq_false hb | replace hb := bne_t hb | replace hb := bne_f hb | skip); all_goals (try (exfalso; omega)))
    | (apply aw_cond; exact rfl; all_goals intro hb; all_goals (try simp only [hb]); all_goals (first | replace hb := of_decide_eq_true hb | replace hb := of_decide_eq_false hb | replace hb := bne_t hb | replace hb := bne_f hb | skip); all_goals (try (exfalso; omega))))
  all_goals try (exfalso; omega)
  refine aw_loop (α := Nat × Option Addr × Nat) (E := fun x => [(0, .int .i64 m), (3, .pointer (some ⟨p, 0, none⟩)), (4, .int .i64 (x.1 + 1 : Nat))]) (H := fun x => askTab p x.2.1 x.2.2 (fullA (min x.1 32)) []) (μ := fun x => 32 + m - x.1)
    (S := fun x => x.1 ≤ 32 + m) (0, A, c) (J := []) (Nat.zero_le _) ⟨rfl, rfl, rfl, trivial⟩ (List.Perm.refl _) ?_
  rintro ⟨k, A1, c1⟩ hk
  dsimp only at hk ⊢
  by_cases hlt : k < 32 + m
  · have hd : decide (((k + 1 : Nat) : Int) ≤ 32 + (m : Int)) = true := by simp; omega
    obtain ⟨e, l', he, hadd, hl', hiff⟩ : ∃ (e : Int) (l' : List AskR), addE (mkA (k + 1 : Nat)) (fullA (min k 32)) = e ∧ addA (mkA (k + 1 : Nat)) (fullA (min k 32)) = l' ∧ l' = fullA (min (k + 1) 32) ∧ ((e = 0 ∧ k < 32) ∨ (e = 3 ∧ ¬ k < 32)) := by
      by_cases hk3 : k < 32
      · have := fullA_add hk3
        rw [show min k 32 = k by omega, show min (k + 1) 32 = k + 1 by omega]
        exact ⟨0, fullA (k + 1), by simpa using this.1, by simpa using this.2, rfl, .inl ⟨rfl, hk3⟩⟩
      · have := fullA_full (i := ((k + 1 : Nat) : Int)) (by omega)
        rw [show min k 32 = 32 by omega, show min (k + 1) 32 = 32 by omega]
        exact ⟨3, fullA 32, this.1, this.2, rfl, .inr ⟨rfl, hk3⟩⟩
    have hc := fun F => ask_AddB W p (fullA (min k 32)) (mkA (k + 1 : Nat)) e l' (by rw [fullA_len]; omega) (fullA_up _) he hadd F A1 c1
    rcases hiff with ⟨rfl, h3⟩ | ⟨rfl, h3⟩
    · have hd2 : decide (((k + 1 : Nat) : Int) ≤ 32) = true := by simp; omega
      repeat' (first
        | apply aw_seq | apply aw_region | apply aw_ret | apply aw_skip | apply aw_exit | apply aw_block | apply es_nil
        | (apply es_pure hT; (iterate 4 exact rfl)) | (apply es_skip; (iterate 3 exact rfl)) | (apply es_skip0; (iterate 2 exact rfl))
        | (apply es_i64 hT; (iterate 4 exact rfl); (iterate 2 omega))
        | (apply aw_draw [] [] hmix; decide +kernel)
        | (apply es_build hT; (iterate 4 exact rfl))
        | (apply es_call (hs := (hc _)); (iterate 7 exact rfl); rintro _ _ ⟨rfl, A2, c2, rfl⟩)
        | (apply es_load; (iterate 5 exact rfl); first | exact ld_blk hT rfl rfl mem0 rfl rfl | exact ld_all hT rfl rfl mem0 rfl)
        | (apply es_load; (iterate 5 exact rfl); first | exact ld_blk hT rfl rfl mem1 rfl rfl | exact ld_all hT rfl rfl mem1 rfl)
        | (apply es_load; (iterate 5 exact rfl); first | exact ld_blk hT rfl rfl mem2 rfl rfl | exact ld_all hT rfl rfl mem2 rfl)
        | (apply es_box; (iterate 5 exact rfl); intro _) | (apply es_alloc hT; (iterate 5 exact rfl); intro _)
        | (apply aw_condT; (iterate 2 exact rfl)) | (apply aw_condF; (iterate 2 exact rfl))
        | (apply es_case; exact rfl; all_goals intro hb; all_goals (try simp only [hb]); all_goals (first | replace hb := of_decide_eq_true hb | replace hb := of_decide_eq_false hb | replace hb := bne_t hb | replace hb := bne_f hb | skip); all_goals (try (exfalso; omega)))
        | (apply aw_cond; exact rfl; all_goals intro hb; all_goals (try simp only [hb]); all_goals (first | replace hb := of_decide_eq_true hb | replace hb := of_decide_eq_false hb | replace hb := bne_t hb | replace hb := bne_f hb | skip); all_goals (try (exfalso; omega))))
      all_goals first
        | exact loopq_end (k + 1, A2, c2) (by (try dsimp only); omega) (by (try dsimp only); omega) ⟨rfl, rfl, by (try dsimp only); first | rfl | omega, trivial⟩ (by rw [hl']; exact dt_end)
        | (exfalso; omega)
        | (exfalso; simp_all; done) | (exfalso; simp_all; omega)
    · have hd2 : decide (((k + 1 : Nat) : Int) ≤ 32) = false := by simp; omega
      repeat' (first
        | apply aw_seq | apply aw_region | apply aw_ret | apply aw_skip | apply aw_exit | apply aw_block | apply es_nil
        | (apply es_pure hT; (iterate 4 exact rfl)) | (apply es_skip; (iterate 3 exact rfl)) | (apply es_skip0; (iterate 2 exact rfl))
        | (apply es_i64 hT; (iterate 4 exact rfl); (iterate 2 omega))
        | (apply aw_draw [] [] hmix; decide +kernel)
        | (apply es_build hT; (iterate 4 exact rfl))
        | (apply es_call (hs := (hc _)); (iterate 7 exact rfl); rintro _ _ ⟨rfl, A2, c2, rfl⟩)
        | (apply es_load; (iterate 5 exact rfl); first | exact ld_blk hT rfl rfl mem0 rfl rfl | exact ld_all hT rfl rfl mem0 rfl)
        | (apply es_load; (iterate 5 exact rfl); first | exact ld_blk hT rfl rfl mem1 rfl rfl | exact ld_all hT rfl rfl mem1 rfl)
        | (apply es_load; (iterate 5 exact rfl); first | exact ld_blk hT rfl rfl mem2 rfl rfl | exact ld_all hT rfl rfl mem2 rfl)
        | (apply es_box; (iterate 5 exact rfl); intro _) | (apply es_alloc hT; (iterate 5 exact rfl); intro _)
        | (apply aw_condT; (iterate 2 exact rfl)) | (apply aw_condF; (iterate 2 exact rfl))
        | (apply es_case; exact rfl; all_goals intro hb; all_goals (try simp only [hb]); all_goals (first | replace hb := of_decide_eq_true hb | replace hb := of_decide_eq_false hb | replace hb := bne_t hb | replace hb := bne_f hb | skip); all_goals (try (exfalso; omega)))
        | (apply aw_cond; exact rfl; all_goals intro hb; all_goals (try simp only [hb]); all_goals (first | replace hb := of_decide_eq_true hb | replace hb := of_decide_eq_false hb | replace hb := bne_t hb | replace hb := bne_f hb | skip); all_goals (try (exfalso; omega))))
      all_goals first
        | exact loopq_end (k + 1, A2, c2) (by (try dsimp only); omega) (by (try dsimp only); omega) ⟨rfl, rfl, by (try dsimp only); first | rfl | omega, trivial⟩ (by rw [hl']; exact dt_end)
        | (exfalso; omega)
        | (exfalso; simp_all; done) | (exfalso; simp_all; omega)
  · obtain rfl : k = 32 + m := by omega
    have hd : decide (((32 + m + 1 : Nat) : Int) ≤ 32 + (m : Int)) = false := by simp; omega
    have hm32 : min (32 + m) 32 = 32 := by omega
    rw [hm32]
    obtain ⟨f1, f2, f3, f4, f5⟩ := fullA_end
    have hend := fun F => ask_EndB W p (fullA 32) 3 4 0 endL (by rw [fullA_len]; omega) (fullA_up _) f1 rfl F A1 c1
    have hadd := fun F => ask_AddB W p endL (mkA 1000) 0 addL (by omega) endL_up f2 rfl F A1 c1
    have hmany := fun F A c => ask_ManyB W p addL 32 (by omega) (by omega) F A c
    have hall := fun F A c => ask_AllB W p addL 33 (by omega) f4 F A c
    have hkn := ask_known W
    have hnil := ask_AddNil W zeroA
    repeat' (first
      | apply aw_seq | apply aw_region | apply aw_ret | apply aw_skip | apply aw_exit | apply aw_block | apply es_nil
      | (apply es_pure hT; (iterate 4 exact rfl)) | (apply es_skip; (iterate 3 exact rfl)) | (apply es_skip0; (iterate 2 exact rfl))
      | (apply es_i64 hT; (iterate 4 exact rfl); (iterate 2 omega))
      | (apply aw_draw [] [] hmix; decide +kernel)
      | (apply es_call (hs := (hend _)); (iterate 7 exact rfl); rintro _ _ ⟨rfl, rfl⟩)
      | (apply es_callQ (hs := ((ask_GetNil W 1).mono (by simp))); (iterate 7 exact rfl))
      | (apply es_alloc hT; (iterate 5 exact rfl); intro g8)
      | (apply es_store hT; (iterate 6 exact rfl); exact sel0; (iterate 3 exact rfl); exact Nat.le_of_ble_eq_true rfl)
      | (apply es_build hT; (iterate 4 exact rfl))
      | (apply es_call (hs := ((hadd (_ :: [])).perm (selS (selS sel0)).symm)); (iterate 7 exact rfl); rintro _ _ ⟨rfl, A2, c2, rfl⟩)
      | (apply es_callQ (hs := (hmany _ _ _)); (iterate 7 exact rfl))
      | (apply es_call (hs := (hall _ _ _)); (iterate 7 exact rfl); rintro _ _ ⟨A5, c5, rfl, rfl, hf5⟩)
      | (apply es_callQ (hs := (hnil.mono (by simp))); (iterate 7 exact rfl))
      | (apply es_callQ (hs := ((ask_BackNil W 1).mono (by simp))); (iterate 7 exact rfl))
      | (apply es_callQ (hs := ((ask_AllNil W).mono (by simp))); (iterate 7 exact rfl))
      | (apply es_callQ (hs := ((ask_ManyNil W).mono (by simp))); (iterate 7 exact rfl))
      | (apply es_callQ (hs := (hkn.mono (by simp))); (iterate 7 exact rfl))
      | (apply es_load; (iterate 5 exact rfl); first | exact ld_blk hT rfl rfl mem0 rfl rfl | exact ld_all hT rfl rfl mem0 rfl)
      | (apply es_load; (iterate 5 exact rfl); first | exact ld_blk hT rfl rfl mem1 rfl rfl | exact ld_all hT rfl rfl mem1 rfl)
      | (apply es_load; (iterate 5 exact rfl); first | exact ld_blk hT rfl rfl mem2 rfl rfl | exact ld_all hT rfl rfl mem2 rfl)
      | (apply es_load; (iterate 5 exact rfl); first | exact ld_blk hT rfl rfl mem0 rfl rfl | exact ld_all hT rfl rfl mem0 rfl)
      | (apply es_load; (iterate 5 exact rfl); first | exact ld_blk hT rfl rfl (List.mem_cons_of_mem _ mem0) rfl rfl | exact ld_all hT rfl rfl (List.mem_cons_of_mem _ mem0) rfl)
      | (apply es_load; (iterate 5 exact rfl); first | exact ld_blk hT rfl rfl (List.mem_cons_of_mem _ (List.mem_cons_of_mem _ mem0)) rfl rfl | exact ld_all hT rfl rfl (List.mem_cons_of_mem _ (List.mem_cons_of_mem _ mem0)) rfl)
      | (apply es_load; (iterate 5 exact rfl); first | exact ld_blk hT rfl rfl mem1 rfl rfl | exact ld_all hT rfl rfl mem1 rfl)
      | (apply es_load; (iterate 5 exact rfl); first | exact ld_blk hT rfl rfl (List.mem_cons_of_mem _ mem1) rfl rfl | exact ld_all hT rfl rfl (List.mem_cons_of_mem _ mem1) rfl)
      | (apply es_load; (iterate 5 exact rfl); first | exact ld_blk hT rfl rfl (List.mem_cons_of_mem _ (List.mem_cons_of_mem _ mem1)) rfl rfl | exact ld_all hT rfl rfl (List.mem_cons_of_mem _ (List.mem_cons_of_mem _ mem1)) rfl)
      | (apply es_box; (iterate 5 exact rfl); intro _) | (apply es_alloc hT; (iterate 5 exact rfl); intro _)
      | (apply aw_condT; (iterate 2 exact rfl)) | (apply aw_condF; (iterate 2 exact rfl))
      | (apply es_case; exact rfl; all_goals intro hb; all_goals (try simp only [hb]); all_goals (first | replace hb := of_decide_eq_true hb | replace hb := of_decide_eq_false hb | replace hb := bne_t hb | replace hb := bne_f hb | skip); all_goals (try (exfalso; omega)))
      | (apply aw_cond; exact rfl; all_goals intro hb; all_goals (try simp only [hb]); all_goals (first | replace hb := of_decide_eq_true hb | replace hb := of_decide_eq_false hb | replace hb := bne_t hb | replace hb := bne_f hb | skip); all_goals (try (exfalso; omega))))
    apply ret1; exact rfl; exact rfl
end Go.Proofs.Ytmoglacdddinjaa
