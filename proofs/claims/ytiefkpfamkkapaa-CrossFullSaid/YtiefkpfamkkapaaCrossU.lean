/- What the statement CrossFull answers. Conditions stand in each statement. -/
import Derived.Test.YtiefkpfamkkapaaCrossK
set_option linter.unusedSimpArgs false
set_option linter.unusedVariables false
namespace Go.Proofs.Ytiefkpfamkkapaa
open Go Go.Sl
attribute [local irreducible] AW ES EP Ld RetQ
set_option maxRecDepth 100000

def fullO (j : Nat) : Order := ⟨(j : Int) + 1, (j : Int) + 1, 1, 2, 50, 2⟩
def fullL (k : Nat) : List Order := (List.range k).map fullO
theorem fullL_len (k : Nat) : (fullL k).length = k := by simp [fullL]
theorem fullL_add (k : Nat) : fullL (k + 1) = fullL k ++ [fullO k] := by simp [fullL, List.range_succ]
theorem full_book : bookOf (fullL 64) = fullL 64 := by decide +kernel
def fu1 : Order := ⟨900, 900, 2, 1, 60, 3⟩
def fu0 : Order := ⟨900, 900, 2, 1, 0, 3⟩
theorem full_0 : (doV 0 fu1 (fullL 64)).err = 3 ∧ (doV 0 fu1 (fullL 64)).fills = [] ∧ (doV 0 fu1 (fullL 64)).bk = fullL 64 := by decide +kernel
theorem full_3 : (doV 3 fu1 (fullL 64)).err = 3 ∧ (doV 3 fu1 (fullL 64)).fills = [] ∧ (doV 3 fu1 (fullL 64)).bk = fullL 64 := by decide +kernel
theorem full_1 : (doV 1 fu1 (fullL 64)).err = 0 ∧ (doV 1 fu1 (fullL 64)).fills = [⟨1, 900, 1, 2, 50, 2, 0⟩, ⟨2, 900, 1, 2, 50, 1, 1⟩] ∧ (doV 1 fu1 (fullL 64)).left = 0 ∧ (doV 1 fu1 (fullL 64)).bk.length = 63 := by decide +kernel
theorem full_2 : (doV 2 fu1 (fullL 64)).err = 0 ∧ (doV 2 fu1 (fullL 64)).fills = [⟨1, 900, 1, 2, 50, 2, 0⟩, ⟨2, 900, 1, 2, 50, 1, 1⟩] ∧ (doV 2 fu1 (fullL 64)).left = 0 ∧ (doV 2 fu1 (fullL 64)).bk.length = 63 := by decide +kernel
theorem full_4 : (doV 4 fu0 (fullL 64)).err = 0 ∧ (doV 4 fu0 (fullL 64)).fills = [⟨1, 900, 1, 2, 50, 2, 0⟩, ⟨2, 900, 1, 2, 50, 1, 1⟩] ∧ (doV 4 fu0 (fullL 64)).left = 0 ∧ (doV 4 fu0 (fullL 64)).bk.length = 63 := by decide +kernel

set_option maxHeartbeats 4000000 in
theorem cross_Full (W : World) (how : Int) : FSpec Try.prog W 21 [.int .i64 how] [] (fun v _ => v = .bool true) := by
  refine spec_body Try.func21 rfl rfl Try.results21 Try.ntmps21 rfl rfl ?_
  by_cases h1 : how < 0 ∨ how > 4
  · repeat' (first
      | apply aw_seq | apply aw_region | apply aw_ret | apply aw_skip | apply aw_exit | apply aw_block | apply es_nil
      | (apply es_pure hT; (iterate 4 exact rfl)) | (apply es_skip; (iterate 3 exact rfl)) | (apply es_skip0; (iterate 2 exact rfl))
      | (apply es_i64 hT; (iterate 4 exact rfl); (iterate 2 (first | omega | (dsimp only; omega))))
      | (apply aw_draw [] [] hmix; decide +kernel)
      | (apply es_load; (iterate 5 exact rfl); first | (apply ld_blk hT; exact rfl; exact rfl; (repeat (first | exact List.mem_cons_self | apply List.mem_cons_of_mem)); exact rfl; exact rfl) | (apply ld_all hT; exact rfl; exact rfl; (repeat (first | exact List.mem_cons_self | apply List.mem_cons_of_mem)); exact rfl))
      | (apply es_box; (iterate 5 exact rfl); intro _) | (apply es_alloc hT; (iterate 5 exact rfl); intro _)
      | (apply aw_condT; (iterate 2 exact rfl)) | (apply aw_condF; (iterate 2 exact rfl))
      | (apply es_case; exact rfl; all_goals intro hb; all_goals (fail_if_success (change true = true at hb)); all_goals (fail_if_success (change false = false at hb)); all_goals (try dsimp only at hb); all_goals (try simp only [hb]); all_goals (first | replace hb := of_decide_eq_true hb | replace hb := of_decide_eq_false hb | replace hb := bne_t hb | replace hb := bne_f hb | replace hb := eq_of_beq hb | replace hb := ne_of_beq_false hb | skip); all_goals (try (exfalso; omega)))
      | (apply aw_cond; exact rfl; all_goals intro hb; all_goals (try dsimp only at hb); all_goals (try simp only [hb]); all_goals (first | replace hb := of_decide_eq_true hb | replace hb := of_decide_eq_false hb | replace hb := bne_t hb | replace hb := bne_f hb | replace hb := eq_of_beq hb | replace hb := ne_of_beq_false hb | skip); all_goals (try (exfalso; omega))))
    all_goals first
      | (exfalso; omega)
      | (apply ret1; exact rfl; exact rfl)
  have hkn := cross_known W
  have hboth : ∀ A c h, Chunk.own A (fullL 64).length c 29 6 ((fullL 64).flatMap Order.enc) ∈ h → FSpec Try.prog W 63 [.slice A (fullL 64).length c] h (fun v h' => ∃ p A1 c1 q A' c', v = .tuple #[.pointer (some ⟨p, 0, none⟩), .pointer (some ⟨q, 0, none⟩)] ∧ h' = bookTab p A1 c1 (fullL 64) (refB q A' c' (fullL 64) h)) := fun A c h hm => by
    have hlen : ((fullL 64).flatMap Order.enc).length = (fullL 64).length * 6 := flat_len Order.enc_len _
    have hone : ∀ v ∈ (fullL 64).flatMap Order.enc, v.oneCell' = true := fun v hv => by
      obtain ⟨o, _, ho⟩ := List.mem_flatMap.1 hv
      exact Order.enc_one o v ho
    have := both15 W h A c (fullL 64) (Reads.own hm hlen hone) (by rw [fullL_len]; omega)
    rw [full_book] at this
    exact this
  have hB : BookB (fullL 64) := by rw [← full_book]; exact bookOf_B _
  repeat' (first
    | apply aw_seq | apply aw_region | apply aw_ret | apply aw_skip | apply aw_exit | apply aw_block | apply es_nil
    | (apply es_pure hT; (iterate 4 exact rfl)) | (apply es_skip; (iterate 3 exact rfl)) | (apply es_skip0; (iterate 2 exact rfl))
    | (apply es_i64 hT; (iterate 4 exact rfl); (iterate 2 (first | omega | (dsimp only; omega))))
    | (apply aw_draw [] [] hmix; decide +kernel)
    | (apply es_load; (iterate 5 exact rfl); first | (apply ld_blk hT; exact rfl; exact rfl; (repeat (first | exact List.mem_cons_self | apply List.mem_cons_of_mem)); exact rfl; exact rfl) | (apply ld_all hT; exact rfl; exact rfl; (repeat (first | exact List.mem_cons_self | apply List.mem_cons_of_mem)); exact rfl))
    | (apply es_box; (iterate 5 exact rfl); intro _) | (apply es_alloc hT; (iterate 5 exact rfl); intro _)
    | (apply aw_condT; (iterate 2 exact rfl)) | (apply aw_condF; (iterate 2 exact rfl))
    | (apply es_case; exact rfl; all_goals intro hb; all_goals (fail_if_success (change true = true at hb)); all_goals (fail_if_success (change false = false at hb)); all_goals (try dsimp only at hb); all_goals (try simp only [hb]); all_goals (first | replace hb := of_decide_eq_true hb | replace hb := of_decide_eq_false hb | replace hb := bne_t hb | replace hb := bne_f hb | replace hb := eq_of_beq hb | replace hb := ne_of_beq_false hb | skip); all_goals (try (exfalso; omega)))
    | (apply aw_cond; exact rfl; all_goals intro hb; all_goals (try dsimp only at hb); all_goals (try simp only [hb]); all_goals (first | replace hb := of_decide_eq_true hb | replace hb := of_decide_eq_false hb | replace hb := bne_t hb | replace hb := bne_f hb | replace hb := eq_of_beq hb | replace hb := ne_of_beq_false hb | skip); all_goals (try (exfalso; omega))))
  all_goals try (exfalso; omega)
  refine aw_conv (fun w hw => ⟨_, hw.own_nil 29 6, ?_⟩)
  refine aw_loopD (α := Nat × Option Addr × Nat) (E := fun x => [(0, .int .i64 how), (3, .slice x.2.1 (fullL x.1).length x.2.2), (4, .int .i64 ((x.1 : Int) + 1))]) (H := fun x => [.own x.2.1 (fullL x.1).length x.2.2 29 6 ((fullL x.1).flatMap Order.enc)]) (μ := fun x => 64 - x.1)
    (S := fun x => x.1 ≤ 64) (0, none, 0) (Nat.zero_le _) ⟨rfl, rfl, rfl, trivial⟩ (by show DropTo [.own none 0 0 29 6 []] [.own none 0 0 29 6 []]; exact dt_end) ?_
  rintro ⟨k, A3, c3⟩ hk
  dsimp only at hk ⊢
  by_cases hlt : k < 64
  · have hd1 : decide ((k : Int) + 1 ≤ 64) = true := by simp; omega
    have hfk := fullL_len k
    have hst := fullL_add k
    generalize fullL k = fk at hfk hst ⊢
    repeat' (first
      | apply aw_seq | apply aw_region | apply aw_ret | apply aw_skip | apply aw_exit | apply aw_block | apply es_nil
      | (apply es_pure hT; (iterate 4 exact rfl)) | (apply es_skip; (iterate 3 exact rfl)) | (apply es_skip0; (iterate 2 exact rfl))
      | (apply es_i64 hT; (iterate 4 exact rfl); (iterate 2 (first | omega | (dsimp only; omega))))
      | (apply aw_draw [] [] hmix; decide +kernel)
      | (apply es_buildS hT (cs := Order.enc (fullO k)); (iterate 4 exact rfl))
      | (apply es_buildSlice hT; (iterate 12 exact rfl); intro g)
      | (apply es_append hT; (iterate 10 exact rfl); (repeat (first | exact sel0 | apply selS)); exact Reads.own mem0 rfl (Order.enc_one (fullO k)); omega; (show (_ : Nat) * 48 ≤ _; omega); intro A' c')
      | (apply es_load; (iterate 5 exact rfl); first | (apply ld_blk hT; exact rfl; exact rfl; (repeat (first | exact List.mem_cons_self | apply List.mem_cons_of_mem)); exact rfl; exact rfl) | (apply ld_all hT; exact rfl; exact rfl; (repeat (first | exact List.mem_cons_self | apply List.mem_cons_of_mem)); exact rfl))
      | (apply es_box; (iterate 5 exact rfl); intro _) | (apply es_alloc hT; (iterate 5 exact rfl); intro _)
      | (apply aw_condT; (iterate 2 exact rfl)) | (apply aw_condF; (iterate 2 exact rfl))
      | (apply es_case; exact rfl; all_goals intro hb; all_goals (fail_if_success (change true = true at hb)); all_goals (fail_if_success (change false = false at hb)); all_goals (try dsimp only at hb); all_goals (try simp only [hb]); all_goals (first | replace hb := of_decide_eq_true hb | replace hb := of_decide_eq_false hb | replace hb := bne_t hb | replace hb := bne_f hb | replace hb := eq_of_beq hb | replace hb := ne_of_beq_false hb | skip); all_goals (try (exfalso; omega)))
      | (apply aw_cond; exact rfl; all_goals intro hb; all_goals (try dsimp only at hb); all_goals (try simp only [hb]); all_goals (first | replace hb := of_decide_eq_true hb | replace hb := of_decide_eq_false hb | replace hb := bne_t hb | replace hb := bne_f hb | replace hb := eq_of_beq hb | replace hb := ne_of_beq_false hb | skip); all_goals (try (exfalso; omega))))
    all_goals first
      | (exfalso; omega)
      | (refine loopq_end (k + 1, A', c') (by dsimp only; omega) (by dsimp only; omega) ?_ ?_
         · dsimp only; rw [hst]; exact ⟨rfl, by rw [List.length_append]; rfl, by rw [show (((k + 1 : Nat) : Int) + 1) = (k : Int) + 1 + 1 by omega]; rfl, trivial⟩
         · dsimp only; rw [hst]; rw [List.length_append, List.flatMap_append]; (repeat (first | exact dt_end | (apply dt_cons; · (repeat (first | exact sel0 | apply selS))) | apply dt_skip)))
      | skip
  · obtain rfl : k = 64 := by omega
    have hd1 : decide ((((64 : Nat) : Int)) + 1 ≤ 64) = false := by decide
    rcases (show how = 0 ∨ how = 1 ∨ how = 2 ∨ how = 3 ∨ how = 4 by omega) with rfl | rfl | rfl | rfl | rfl
    · skip
      have hdo := fun p A c F => cross_Do W F p A c (fullL 64) fu1 0 hB
      obtain ⟨w1, w2, w3⟩ := full_0
      rw [w1, w2, w3] at hdo
      generalize hfl : fullL 64 = fl at hboth hdo hB
      generalize (doV 0 fu1 fl).gones = go at hdo
      generalize (doV 0 fu1 fl).left = lf at hdo
      repeat' (first
        | (apply es_sameB hT; (iterate 5 exact rfl))
        | apply aw_seq | apply aw_region | apply aw_ret | apply aw_skip | apply aw_exit | apply aw_block | apply es_nil
        | (apply es_pure hT; (iterate 4 exact rfl)) | (apply es_skip; (iterate 3 exact rfl)) | (apply es_skip0; (iterate 2 exact rfl))
        | (apply es_i64 hT; (iterate 4 exact rfl); (iterate 2 (first | omega | (dsimp only; omega))))
        | (apply aw_draw [] [] hmix; decide +kernel)
        | (apply es_call (hs := (hboth _ _ _ mem0)); (iterate 7 exact rfl); rintro _ _ ⟨p, A, c, q, A', c', rfl, rfl⟩)
        | (apply es_buildS hT (cs := Order.enc fu1); (iterate 4 exact rfl))
        | (apply es_alloc hT; (iterate 5 exact rfl); first | ((fail_if_success (have q := g7)); intro g7) | intro _)
        | (apply es_store hT; (iterate 6 exact rfl); (repeat (first | exact sel0 | apply selS)); (iterate 3 exact rfl); exact Nat.le_of_ble_eq_true rfl)
        | (apply es_call (hs := (FSpec.perm (hdo p A c (refB q A' c' fl [.own A3 fl.length c3 29 6 (fl.flatMap Order.enc), .blk g7 29 fu1.enc])) (by (repeat (first | exact List.Perm.refl _ | (apply permC; · (repeat (first | exact sel0 | apply selS)))))))); (iterate 7 exact rfl); rintro _ _ ⟨Af, cf, Ag, cg, A4, c4, rfl, rfl, hfF, hfG⟩)
        | (apply es_callQ (hs := (same15 W _ p q A4 A' c4 c' fl hB (by (repeat (first | exact List.mem_cons_self | apply List.mem_cons_of_mem))) (by (repeat (first | exact List.mem_cons_self | apply List.mem_cons_of_mem))) (by (repeat (first | exact List.mem_cons_self | apply List.mem_cons_of_mem))) (by (repeat (first | exact List.mem_cons_self | apply List.mem_cons_of_mem))))); (iterate 7 exact rfl))
        | (apply es_callQ (hs := (hkn.mono (by simp))); (iterate 7 exact rfl))
        | (apply es_load; (iterate 5 exact rfl); first | (apply ld_blk hT; exact rfl; exact rfl; (repeat (first | exact List.mem_cons_self | apply List.mem_cons_of_mem)); exact rfl; exact rfl) | (apply ld_all hT; exact rfl; exact rfl; (repeat (first | exact List.mem_cons_self | apply List.mem_cons_of_mem)); exact rfl))
        | (apply es_box; (iterate 5 exact rfl); intro _) | (apply es_alloc hT; (iterate 5 exact rfl); intro _)
        | (apply aw_condT; (iterate 2 exact rfl)) | (apply aw_condF; (iterate 2 exact rfl))
        | (apply es_case; exact rfl; all_goals intro hb; all_goals (fail_if_success (change true = true at hb)); all_goals (fail_if_success (change false = false at hb)); all_goals (try dsimp only at hb); all_goals (try simp only [hb]); all_goals (first | replace hb := of_decide_eq_true hb | replace hb := of_decide_eq_false hb | replace hb := bne_t hb | replace hb := bne_f hb | replace hb := eq_of_beq hb | replace hb := ne_of_beq_false hb | skip); all_goals (try (exfalso; omega)))
        | (apply aw_cond; exact rfl; all_goals intro hb; all_goals (try dsimp only at hb); all_goals (try simp only [hb]); all_goals (first | replace hb := of_decide_eq_true hb | replace hb := of_decide_eq_false hb | replace hb := bne_t hb | replace hb := bne_f hb | replace hb := eq_of_beq hb | replace hb := ne_of_beq_false hb | skip); all_goals (try (exfalso; omega))))
      all_goals first
        | (exfalso; omega)
        | (apply ret1; exact rfl; exact rfl)
        | skip
    · skip
      have hdo := fun p A c F => cross_Do W F p A c (fullL 64) fu1 1 hB
      obtain ⟨w1, w2, w3, w4⟩ := full_1
      rw [w1, w2, w3] at hdo
      generalize hfl : fullL 64 = fl at hboth hdo hB w4
      generalize (doV 1 fu1 fl).gones = go at hdo
      generalize (doV 1 fu1 fl).bk = bk at hdo w4
      have hL := fun p A c => (book_Len W p A c bk).cast (u := .int .i64 63) (by rw [w4]; rfl)
      repeat' (first
        | (apply es_sameB hT; (iterate 5 exact rfl))
        | apply aw_seq | apply aw_region | apply aw_ret | apply aw_skip | apply aw_exit | apply aw_block | apply es_nil
        | (apply es_pure hT; (iterate 4 exact rfl)) | (apply es_skip; (iterate 3 exact rfl)) | (apply es_skip0; (iterate 2 exact rfl))
        | (apply es_i64 hT; (iterate 4 exact rfl); (iterate 2 (first | omega | (dsimp only; omega))))
        | (apply aw_draw [] [] hmix; decide +kernel)
        | (apply es_call (hs := (hboth _ _ _ mem0)); (iterate 7 exact rfl); rintro _ _ ⟨p, A, c, q, A', c', rfl, rfl⟩)
        | (apply es_buildS hT (cs := Order.enc fu1); (iterate 4 exact rfl))
        | (apply es_alloc hT; (iterate 5 exact rfl); first | ((fail_if_success (have q := g7)); intro g7) | intro _)
        | (apply es_store hT; (iterate 6 exact rfl); (repeat (first | exact sel0 | apply selS)); (iterate 3 exact rfl); exact Nat.le_of_ble_eq_true rfl)
        | (apply es_call (hs := (FSpec.perm (hdo p A c (refB q A' c' fl [.own A3 fl.length c3 29 6 (fl.flatMap Order.enc), .blk g7 29 (Order.enc fu1)])) (by (repeat (first | exact List.Perm.refl _ | (apply permC; · (repeat (first | exact sel0 | apply selS)))))))); (iterate 7 exact rfl); rintro _ _ ⟨Af, cf, Ag, cg, A4, c4, rfl, rfl, hfF, hfG⟩)
        | (apply es_idx hT; (iterate 8 exact rfl); omega; (show (1 : Int) < 2; omega); exact hfF.some_ (by simp))
        | (apply es_load; (iterate 5 exact rfl); exact ld_fld hT rfl rfl (hfF.reads mem0) FillR.enc_len (adr_add _ _ _) (rfl : ([⟨1, 900, 1, 2, 50, 2, 0⟩, ⟨2, 900, 1, 2, 50, 1, 1⟩] : List FillR)[1]? = some ⟨2, 900, 1, 2, 50, 1, 1⟩) (by decide) rfl)
        | (apply es_callQ (hs := ((hL p A4 c4).mono (memPairB (by (repeat (first | exact List.mem_cons_self | apply List.mem_cons_of_mem))) (by (repeat (first | exact List.mem_cons_self | apply List.mem_cons_of_mem)))))); (iterate 7 exact rfl))
        | (apply es_callQ (hs := (hkn.mono (by simp))); (iterate 7 exact rfl))
        | (apply es_load; (iterate 5 exact rfl); first | (apply ld_blk hT; exact rfl; exact rfl; (repeat (first | exact List.mem_cons_self | apply List.mem_cons_of_mem)); exact rfl; exact rfl) | (apply ld_all hT; exact rfl; exact rfl; (repeat (first | exact List.mem_cons_self | apply List.mem_cons_of_mem)); exact rfl))
        | (apply es_box; (iterate 5 exact rfl); intro _) | (apply es_alloc hT; (iterate 5 exact rfl); intro _)
        | (apply aw_condT; (iterate 2 exact rfl)) | (apply aw_condF; (iterate 2 exact rfl))
        | (apply es_case; exact rfl; all_goals intro hb; all_goals (fail_if_success (change true = true at hb)); all_goals (fail_if_success (change false = false at hb)); all_goals (try dsimp only at hb); all_goals (try simp only [hb]); all_goals (first | replace hb := of_decide_eq_true hb | replace hb := of_decide_eq_false hb | replace hb := bne_t hb | replace hb := bne_f hb | replace hb := eq_of_beq hb | replace hb := ne_of_beq_false hb | skip); all_goals (try (exfalso; omega)))
        | (apply aw_cond; exact rfl; all_goals intro hb; all_goals (try dsimp only at hb); all_goals (try simp only [hb]); all_goals (first | replace hb := of_decide_eq_true hb | replace hb := of_decide_eq_false hb | replace hb := bne_t hb | replace hb := bne_f hb | replace hb := eq_of_beq hb | replace hb := ne_of_beq_false hb | skip); all_goals (try (exfalso; omega))))
      all_goals first
        | (exfalso; omega)
        | (apply ret1; exact rfl; exact rfl)
        | skip
    · skip
      have hdo := fun p A c F => cross_Do W F p A c (fullL 64) fu1 2 hB
      obtain ⟨w1, w2, w3, w4⟩ := full_2
      rw [w1, w2, w3] at hdo
      generalize hfl : fullL 64 = fl at hboth hdo hB w4
      generalize (doV 2 fu1 fl).gones = go at hdo
      generalize (doV 2 fu1 fl).bk = bk at hdo w4
      have hL := fun p A c => (book_Len W p A c bk).cast (u := .int .i64 63) (by rw [w4]; rfl)
      repeat' (first
        | (apply es_sameB hT; (iterate 5 exact rfl))
        | apply aw_seq | apply aw_region | apply aw_ret | apply aw_skip | apply aw_exit | apply aw_block | apply es_nil
        | (apply es_pure hT; (iterate 4 exact rfl)) | (apply es_skip; (iterate 3 exact rfl)) | (apply es_skip0; (iterate 2 exact rfl))
        | (apply es_i64 hT; (iterate 4 exact rfl); (iterate 2 (first | omega | (dsimp only; omega))))
        | (apply aw_draw [] [] hmix; decide +kernel)
        | (apply es_call (hs := (hboth _ _ _ mem0)); (iterate 7 exact rfl); rintro _ _ ⟨p, A, c, q, A', c', rfl, rfl⟩)
        | (apply es_buildS hT (cs := Order.enc fu1); (iterate 4 exact rfl))
        | (apply es_alloc hT; (iterate 5 exact rfl); first | ((fail_if_success (have q := g7)); intro g7) | intro _)
        | (apply es_store hT; (iterate 6 exact rfl); (repeat (first | exact sel0 | apply selS)); (iterate 3 exact rfl); exact Nat.le_of_ble_eq_true rfl)
        | (apply es_call (hs := (FSpec.perm (hdo p A c (refB q A' c' fl [.own A3 fl.length c3 29 6 (fl.flatMap Order.enc), .blk g7 29 (Order.enc fu1)])) (by (repeat (first | exact List.Perm.refl _ | (apply permC; · (repeat (first | exact sel0 | apply selS)))))))); (iterate 7 exact rfl); rintro _ _ ⟨Af, cf, Ag, cg, A4, c4, rfl, rfl, hfF, hfG⟩)
        | (apply es_idx hT; (iterate 8 exact rfl); omega; (show (1 : Int) < 2; omega); exact hfF.some_ (by simp))
        | (apply es_load; (iterate 5 exact rfl); exact ld_fld hT rfl rfl (hfF.reads mem0) FillR.enc_len (adr_add _ _ _) (rfl : ([⟨1, 900, 1, 2, 50, 2, 0⟩, ⟨2, 900, 1, 2, 50, 1, 1⟩] : List FillR)[1]? = some ⟨2, 900, 1, 2, 50, 1, 1⟩) (by decide) rfl)
        | (apply es_callQ (hs := ((hL p A4 c4).mono (memPairB (by (repeat (first | exact List.mem_cons_self | apply List.mem_cons_of_mem))) (by (repeat (first | exact List.mem_cons_self | apply List.mem_cons_of_mem)))))); (iterate 7 exact rfl))
        | (apply es_callQ (hs := (hkn.mono (by simp))); (iterate 7 exact rfl))
        | (apply es_load; (iterate 5 exact rfl); first | (apply ld_blk hT; exact rfl; exact rfl; (repeat (first | exact List.mem_cons_self | apply List.mem_cons_of_mem)); exact rfl; exact rfl) | (apply ld_all hT; exact rfl; exact rfl; (repeat (first | exact List.mem_cons_self | apply List.mem_cons_of_mem)); exact rfl))
        | (apply es_box; (iterate 5 exact rfl); intro _) | (apply es_alloc hT; (iterate 5 exact rfl); intro _)
        | (apply aw_condT; (iterate 2 exact rfl)) | (apply aw_condF; (iterate 2 exact rfl))
        | (apply es_case; exact rfl; all_goals intro hb; all_goals (fail_if_success (change true = true at hb)); all_goals (fail_if_success (change false = false at hb)); all_goals (try dsimp only at hb); all_goals (try simp only [hb]); all_goals (first | replace hb := of_decide_eq_true hb | replace hb := of_decide_eq_false hb | replace hb := bne_t hb | replace hb := bne_f hb | replace hb := eq_of_beq hb | replace hb := ne_of_beq_false hb | skip); all_goals (try (exfalso; omega)))
        | (apply aw_cond; exact rfl; all_goals intro hb; all_goals (try dsimp only at hb); all_goals (try simp only [hb]); all_goals (first | replace hb := of_decide_eq_true hb | replace hb := of_decide_eq_false hb | replace hb := bne_t hb | replace hb := bne_f hb | replace hb := eq_of_beq hb | replace hb := ne_of_beq_false hb | skip); all_goals (try (exfalso; omega))))
      all_goals first
        | (exfalso; omega)
        | (apply ret1; exact rfl; exact rfl)
        | skip
    · skip
      have hdo := fun p A c F => cross_Do W F p A c (fullL 64) fu1 3 hB
      obtain ⟨w1, w2, w3⟩ := full_3
      rw [w1, w2, w3] at hdo
      generalize hfl : fullL 64 = fl at hboth hdo hB
      generalize (doV 3 fu1 fl).gones = go at hdo
      generalize (doV 3 fu1 fl).left = lf at hdo
      repeat' (first
        | (apply es_sameB hT; (iterate 5 exact rfl))
        | apply aw_seq | apply aw_region | apply aw_ret | apply aw_skip | apply aw_exit | apply aw_block | apply es_nil
        | (apply es_pure hT; (iterate 4 exact rfl)) | (apply es_skip; (iterate 3 exact rfl)) | (apply es_skip0; (iterate 2 exact rfl))
        | (apply es_i64 hT; (iterate 4 exact rfl); (iterate 2 (first | omega | (dsimp only; omega))))
        | (apply aw_draw [] [] hmix; decide +kernel)
        | (apply es_call (hs := (hboth _ _ _ mem0)); (iterate 7 exact rfl); rintro _ _ ⟨p, A, c, q, A', c', rfl, rfl⟩)
        | (apply es_buildS hT (cs := Order.enc fu1); (iterate 4 exact rfl))
        | (apply es_alloc hT; (iterate 5 exact rfl); first | ((fail_if_success (have q := g7)); intro g7) | intro _)
        | (apply es_store hT; (iterate 6 exact rfl); (repeat (first | exact sel0 | apply selS)); (iterate 3 exact rfl); exact Nat.le_of_ble_eq_true rfl)
        | (apply es_call (hs := (FSpec.perm (hdo p A c (refB q A' c' fl [.own A3 fl.length c3 29 6 (fl.flatMap Order.enc), .blk g7 29 fu1.enc])) (by (repeat (first | exact List.Perm.refl _ | (apply permC; · (repeat (first | exact sel0 | apply selS)))))))); (iterate 7 exact rfl); rintro _ _ ⟨Af, cf, Ag, cg, A4, c4, rfl, rfl, hfF, hfG⟩)
        | (apply es_callQ (hs := (same15 W _ p q A4 A' c4 c' fl hB (by (repeat (first | exact List.mem_cons_self | apply List.mem_cons_of_mem))) (by (repeat (first | exact List.mem_cons_self | apply List.mem_cons_of_mem))) (by (repeat (first | exact List.mem_cons_self | apply List.mem_cons_of_mem))) (by (repeat (first | exact List.mem_cons_self | apply List.mem_cons_of_mem))))); (iterate 7 exact rfl))
        | (apply es_callQ (hs := (hkn.mono (by simp))); (iterate 7 exact rfl))
        | (apply es_load; (iterate 5 exact rfl); first | (apply ld_blk hT; exact rfl; exact rfl; (repeat (first | exact List.mem_cons_self | apply List.mem_cons_of_mem)); exact rfl; exact rfl) | (apply ld_all hT; exact rfl; exact rfl; (repeat (first | exact List.mem_cons_self | apply List.mem_cons_of_mem)); exact rfl))
        | (apply es_box; (iterate 5 exact rfl); intro _) | (apply es_alloc hT; (iterate 5 exact rfl); intro _)
        | (apply aw_condT; (iterate 2 exact rfl)) | (apply aw_condF; (iterate 2 exact rfl))
        | (apply es_case; exact rfl; all_goals intro hb; all_goals (fail_if_success (change true = true at hb)); all_goals (fail_if_success (change false = false at hb)); all_goals (try dsimp only at hb); all_goals (try simp only [hb]); all_goals (first | replace hb := of_decide_eq_true hb | replace hb := of_decide_eq_false hb | replace hb := bne_t hb | replace hb := bne_f hb | replace hb := eq_of_beq hb | replace hb := ne_of_beq_false hb | skip); all_goals (try (exfalso; omega)))
        | (apply aw_cond; exact rfl; all_goals intro hb; all_goals (try dsimp only at hb); all_goals (try simp only [hb]); all_goals (first | replace hb := of_decide_eq_true hb | replace hb := of_decide_eq_false hb | replace hb := bne_t hb | replace hb := bne_f hb | replace hb := eq_of_beq hb | replace hb := ne_of_beq_false hb | skip); all_goals (try (exfalso; omega))))
      all_goals first
        | (exfalso; omega)
        | (apply ret1; exact rfl; exact rfl)
        | skip
    · skip
      have hdo := fun p A c F => cross_Do W F p A c (fullL 64) fu0 4 hB
      obtain ⟨w1, w2, w3, w4⟩ := full_4
      rw [w1, w2, w3] at hdo
      generalize hfl : fullL 64 = fl at hboth hdo hB w4
      generalize (doV 4 fu0 fl).gones = go at hdo
      generalize (doV 4 fu0 fl).bk = bk at hdo w4
      have hL := fun p A c => (book_Len W p A c bk).cast (u := .int .i64 63) (by rw [w4]; rfl)
      repeat' (first
        | (apply es_sameB hT; (iterate 5 exact rfl))
        | apply aw_seq | apply aw_region | apply aw_ret | apply aw_skip | apply aw_exit | apply aw_block | apply es_nil
        | (apply es_pure hT; (iterate 4 exact rfl)) | (apply es_skip; (iterate 3 exact rfl)) | (apply es_skip0; (iterate 2 exact rfl))
        | (apply es_i64 hT; (iterate 4 exact rfl); (iterate 2 (first | omega | (dsimp only; omega))))
        | (apply aw_draw [] [] hmix; decide +kernel)
        | (apply es_call (hs := (hboth _ _ _ mem0)); (iterate 7 exact rfl); rintro _ _ ⟨p, A, c, q, A', c', rfl, rfl⟩)
        | (apply es_buildS hT (cs := Order.enc fu1); (iterate 4 exact rfl))
        | (apply es_alloc hT; (iterate 5 exact rfl); first | ((fail_if_success (have q := g7)); intro g7) | intro _)
        | (apply es_store hT; (iterate 6 exact rfl); (repeat (first | exact sel0 | apply selS)); (iterate 3 exact rfl); exact Nat.le_of_ble_eq_true rfl)
        | (apply es_call (hs := (FSpec.perm (hdo p A c (refB q A' c' fl [.own A3 fl.length c3 29 6 (fl.flatMap Order.enc), .blk g7 29 (Order.enc fu0)])) (by (repeat (first | exact List.Perm.refl _ | (apply permC; · (repeat (first | exact sel0 | apply selS)))))))); (iterate 7 exact rfl); rintro _ _ ⟨Af, cf, Ag, cg, A4, c4, rfl, rfl, hfF, hfG⟩)
        | (apply es_idx hT; (iterate 8 exact rfl); omega; (show (1 : Int) < 2; omega); exact hfF.some_ (by simp))
        | (apply es_load; (iterate 5 exact rfl); exact ld_fld hT rfl rfl (hfF.reads mem0) FillR.enc_len (adr_add _ _ _) (rfl : ([⟨1, 900, 1, 2, 50, 2, 0⟩, ⟨2, 900, 1, 2, 50, 1, 1⟩] : List FillR)[1]? = some ⟨2, 900, 1, 2, 50, 1, 1⟩) (by decide) rfl)
        | (apply es_callQ (hs := ((hL p A4 c4).mono (memPairB (by (repeat (first | exact List.mem_cons_self | apply List.mem_cons_of_mem))) (by (repeat (first | exact List.mem_cons_self | apply List.mem_cons_of_mem)))))); (iterate 7 exact rfl))
        | (apply es_callQ (hs := (hkn.mono (by simp))); (iterate 7 exact rfl))
        | (apply es_load; (iterate 5 exact rfl); first | (apply ld_blk hT; exact rfl; exact rfl; (repeat (first | exact List.mem_cons_self | apply List.mem_cons_of_mem)); exact rfl; exact rfl) | (apply ld_all hT; exact rfl; exact rfl; (repeat (first | exact List.mem_cons_self | apply List.mem_cons_of_mem)); exact rfl))
        | (apply es_box; (iterate 5 exact rfl); intro _) | (apply es_alloc hT; (iterate 5 exact rfl); intro _)
        | (apply aw_condT; (iterate 2 exact rfl)) | (apply aw_condF; (iterate 2 exact rfl))
        | (apply es_case; exact rfl; all_goals intro hb; all_goals (fail_if_success (change true = true at hb)); all_goals (fail_if_success (change false = false at hb)); all_goals (try dsimp only at hb); all_goals (try simp only [hb]); all_goals (first | replace hb := of_decide_eq_true hb | replace hb := of_decide_eq_false hb | replace hb := bne_t hb | replace hb := bne_f hb | replace hb := eq_of_beq hb | replace hb := ne_of_beq_false hb | skip); all_goals (try (exfalso; omega)))
        | (apply aw_cond; exact rfl; all_goals intro hb; all_goals (try dsimp only at hb); all_goals (try simp only [hb]); all_goals (first | replace hb := of_decide_eq_true hb | replace hb := of_decide_eq_false hb | replace hb := bne_t hb | replace hb := bne_f hb | replace hb := eq_of_beq hb | replace hb := ne_of_beq_false hb | skip); all_goals (try (exfalso; omega))))
      all_goals first
        | (exfalso; omega)
        | (apply ret1; exact rfl; exact rfl)
        | skip
end Go.Proofs.Ytiefkpfamkkapaa
