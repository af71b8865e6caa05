/- What the statement CrossPlays answers. Conditions stand in each statement. -/
import Derived.Test.YtiefkpfamkkapaaCrossK
set_option linter.unusedSimpArgs false
set_option linter.unusedVariables false
namespace Go.Proofs.Ytiefkpfamkkapaa
open Go Go.Sl
attribute [local irreducible] AW ES EP Ld RetQ
set_option maxRecDepth 100000

structure Act15 where
  order : Order
  how : Int
def Act15.enc (a : Act15) : List Value := a.order.enc ++ [.int .i64 a.how]
theorem Act15.enc_len (a : Act15) : a.enc.length = 7 := rfl
theorem decAct15 (vs : List Value) (h : FitsL [.int .i64, .int .i64, .int .i64, .int .i64, .int .i64, .int .i64, .int .i64] vs) : ∃ x : Act15, Act15.enc x = vs ∧ True := by
  have hlen : vs.length = 7 := h.len
  match vs, hlen, h with
  | [u0, u1, u2, u3, u4, u5, u6], _, h =>
    obtain ⟨a0, h0, _⟩ := h.1
    obtain ⟨a1, h1, _⟩ := h.2.1
    obtain ⟨a2, h2, _⟩ := h.2.2.1
    obtain ⟨a3, h3, _⟩ := h.2.2.2.1
    obtain ⟨a4, h4, _⟩ := h.2.2.2.2.1
    obtain ⟨a5, h5, _⟩ := h.2.2.2.2.2.1
    obtain ⟨a6, h6, _⟩ := h.2.2.2.2.2.2.1
    exact ⟨⟨⟨a0, a1, a2, a3, a4, a5⟩, a6⟩, by rw [h0, h1, h2, h3, h4, h5, h6]; rfl, trivial⟩
theorem wrong_new {how : Int} {o : Order} {l : List Order} (h : wrongV how o l = 0) : newB how o l = true := by
  cases hn : newB how o l
  · unfold wrongV at h; rw [if_pos hn] at h; omega
  · rfl
theorem doV_lens {how : Int} {o : Order} {l : List Order} (hB : BookB l) : (doV how o l).fills.length ≤ 64 ∧ (doV how o l).gones.length ≤ 64 := by
  unfold doV
  split
  · rename_i h0
    have hol := newB_left (wrong_new h0)
    have hml := meets_len how o l
    have hbl := hB.len
    have := runX_facts (o := o) (l := l) (ms := meetsO how o l) (fun x hx => (hB.left x (meets_mem hx).1).1) (by omega) (meetsO how o l).length (Nat.le_refl _)
    rw [List.take_length] at this
    dsimp only
    omega
  · simp

set_option maxHeartbeats 4000000 in
theorem cross_Plays (W : World) (A0 : Option Addr) (c0 : Nat) (ls : List Act15) (hr0 : Reads W [] A0 ls.length 7 (ls.flatMap Act15.enc)) :
    FSpec Try.prog W 17 [.slice A0 ls.length c0] [] (fun v _ => v = .bool true) := by
  refine spec_body Try.func17 rfl rfl Try.results17 Try.ntmps17 rfl rfl ?_
  refine aw_reads hr0 (by rfl) (fun hA0 => ?_)
  by_cases h1 : ls.length > 80
  · repeat' (first
      | apply aw_seq | apply aw_region | apply aw_ret | apply aw_skip | apply aw_exit | apply aw_block | apply es_nil
      | (apply es_pure hT; (iterate 4 exact rfl)) | (apply es_skip; (iterate 3 exact rfl)) | (apply es_skip0; (iterate 2 exact rfl))
      | (apply es_i64 hT; (iterate 4 exact rfl); (iterate 2 (first | omega | (dsimp only; omega))))
      | (apply aw_draw [] [] hmix; decide +kernel)
      | (apply es_load; (iterate 5 exact rfl); first | (apply ld_blk hT; exact rfl; exact rfl; (repeat (first | exact List.mem_cons_self | apply List.mem_cons_of_mem)); exact rfl; exact rfl) | (apply ld_all hT; exact rfl; exact rfl; (repeat (first | exact List.mem_cons_self | apply List.mem_cons_of_mem)); exact rfl))
      | (apply es_box; (iterate 5 exact rfl); intro _) | (apply es_alloc hT; (iterate 5 exact rfl); intro _)
      | (apply aw_condT; (iterate 2 exact rfl)) | (apply aw_condF; (iterate 2 exact rfl))
      | (apply es_case; exact rfl; all_goals intro hb; all_goals (try dsimp only at hb); all_goals (try simp only [hb]); all_goals (first | replace hb := of_decide_eq_true hb | replace hb := of_decide_eq_false hb | replace hb := bne_t hb | replace hb := bne_f hb | replace hb := eq_of_beq hb | replace hb := ne_of_beq_false hb | skip); all_goals (try (exfalso; omega)))
      | (apply aw_cond; exact rfl; all_goals intro hb; all_goals (try dsimp only at hb); all_goals (try simp only [hb]); all_goals (first | replace hb := of_decide_eq_true hb | replace hb := of_decide_eq_false hb | replace hb := bne_t hb | replace hb := bne_f hb | replace hb := eq_of_beq hb | replace hb := ne_of_beq_false hb | skip); all_goals (try (exfalso; omega))))
    apply ret1; exact rfl; exact rfl
  have hboth := both15 W [] none 0 [] Reads.none_ (by simp)
  have hbo : bookOf [] = [] := rfl
  rw [hbo] at hboth
  repeat' (first
    | apply aw_seq | apply aw_region | apply aw_ret | apply aw_skip | apply aw_exit | apply aw_block | apply es_nil
    | (apply es_pure hT; (iterate 4 exact rfl)) | (apply es_skip; (iterate 3 exact rfl)) | (apply es_skip0; (iterate 2 exact rfl))
    | (apply es_i64 hT; (iterate 4 exact rfl); (iterate 2 (first | omega | (dsimp only; omega))))
    | (apply aw_draw [] [] hmix; decide +kernel)
    | (apply es_call (hs := hboth); (iterate 7 exact rfl); rintro _ _ ⟨p, A, c, q, A', c', rfl, rfl⟩)
    | (apply es_load; (iterate 5 exact rfl); first | (apply ld_blk hT; exact rfl; exact rfl; (repeat (first | exact List.mem_cons_self | apply List.mem_cons_of_mem)); exact rfl; exact rfl) | (apply ld_all hT; exact rfl; exact rfl; (repeat (first | exact List.mem_cons_self | apply List.mem_cons_of_mem)); exact rfl))
    | (apply es_box; (iterate 5 exact rfl); intro _) | (apply es_alloc hT; (iterate 5 exact rfl); intro _)
    | (apply aw_condT; (iterate 2 exact rfl)) | (apply aw_condF; (iterate 2 exact rfl))
    | (apply es_case; exact rfl; all_goals intro hb; all_goals (try dsimp only at hb); all_goals (try simp only [hb]); all_goals (first | replace hb := of_decide_eq_true hb | replace hb := of_decide_eq_false hb | replace hb := bne_t hb | replace hb := bne_f hb | replace hb := eq_of_beq hb | replace hb := ne_of_beq_false hb | skip); all_goals (try (exfalso; omega)))
    | (apply aw_cond; exact rfl; all_goals intro hb; all_goals (try dsimp only at hb); all_goals (try simp only [hb]); all_goals (first | replace hb := of_decide_eq_true hb | replace hb := of_decide_eq_false hb | replace hb := bne_t hb | replace hb := bne_f hb | replace hb := eq_of_beq hb | replace hb := ne_of_beq_false hb | skip); all_goals (try (exfalso; omega))))
  all_goals try (exfalso; omega)
  refine aw_loopD (α := Nat × List Order × Option Addr × Nat × Option Addr × Nat) (E := fun x => [(0, .slice A0 ls.length c0), (3, .pointer (some ⟨p, 0, none⟩)), (4, .pointer (some ⟨q, 0, none⟩)), (5, .int .i64 x.1)])
    (H := fun x => bookTab p x.2.2.1 x.2.2.2.1 x.2.1 (refB q x.2.2.2.2.1 x.2.2.2.2.2 x.2.1 [])) (μ := fun x => ls.length - x.1)
    (S := fun x => x.1 ≤ ls.length ∧ BookB x.2.1) (0, [], A, c, A', c')
    ⟨Nat.zero_le _, BookB.nil⟩ ⟨rfl, rfl, rfl, rfl, trivial⟩ dt_end ?_
  rintro ⟨k, l, A1, c1, A2, c2⟩ ⟨hk, hB⟩
  dsimp only at hk hB ⊢
  by_cases hlt : k < ls.length
  · obtain ⟨x, hx⟩ : ∃ x, ls[k]? = some x := ⟨ls[k]'(by omega), List.getElem?_eq_getElem (by omega)⟩
    have hx2 : ls[(k : Int).toNat]? = some x := by simpa using hx
    have hA := hA0 (by omega)
    have hd1 : decide ((k : Int) < (ls.length : Int)) = true := by simp; omega
    have hI := ref2_Is W x.order.side
    have hBn := doV_B (how := x.how) (o := x.order) hB
    have hln := doV_lens (how := x.how) (o := x.order) hB
    have hc1 := fun g6 => cross_Do W (.blk g6 29 x.order.enc :: refB q A2 c2 l []) p A1 c1 l x.order x.how hB
    have hc2 := fun g6 Af cf Ag cg A3 c3 => ref15_Do W (.own Af (doV x.how x.order l).fills.length cf 95 7 ((doV x.how x.order l).fills.flatMap FillR.enc) :: .own Ag (doV x.how x.order l).gones.length cg 103 3 ((doV x.how x.order l).gones.flatMap GoneR.enc) :: .blk g6 29 x.order.enc :: bookTab p A3 c3 (doV x.how x.order l).bk []) q A2 c2 l x.order x.how hB
    have hw1 := cross_Would W p A1 c1 l x.order x.how hB
    cases hsd : isB x.order.side
    · rw [hsd] at hI
      generalize (doV x.how x.order l).fills = fl at hc1 hc2 hln
      generalize (doV x.how x.order l).gones = go at hc1 hc2 hln
      generalize (doV x.how x.order l).bk = bk at hc1 hc2 hBn
      generalize (doV x.how x.order l).left = lf at hc1 hc2
      generalize (doV x.how x.order l).err = er at hc1 hc2
      repeat' (first
        | (apply es_diffB hT; (iterate 5 exact rfl))
        | apply aw_seq | apply aw_region | apply aw_ret | apply aw_skip | apply aw_exit | apply aw_block | apply es_nil
        | (apply es_pure hT; (iterate 4 exact rfl)) | (apply es_skip; (iterate 3 exact rfl)) | (apply es_skip0; (iterate 2 exact rfl))
        | (apply es_i64 hT; (iterate 4 exact rfl); (iterate 2 (first | omega | (dsimp only; omega))))
        | (apply aw_draw [25, 64, 65] [] hmix; decide +kernel)
        | (apply aw_treeD [] [] (.step 0 <| .step 1 <| .step 2 <| .step 3 <| .step 4 <| .step 5 <| .step 6 <| .step 7 <| .step 8 <| .alt (.step 9 <| .step 10 <| .step 11 <| .step 12 <| .nil) ((.step 10 <| .alt (.step 9 <| .step 11 <| .step 12 <| .nil) ((.step 11 <| .step 9 <| .step 12 <| .nil))))) hmix; decide +kernel) | apply ep_nil | apply ep_alt | (apply ep_step; exact rfl)
        | (apply es_idx hT; (iterate 8 exact rfl); (iterate 2 omega); exact hA)
        | (apply es_load; (iterate 5 exact rfl); first | exact ld_fld hT rfl rfl (hr0.mono (by simp)) Act15.enc_len (adr_add _ _ _) hx2 (f := 6) (by decide) rfl | exact ld_sub hT rfl rfl (hr0.mono (by simp)) Act15.enc_len (adr_add _ _ _) hx2 (f := 0) (vs := x.order.enc) (Nat.le_of_ble_eq_true rfl) rfl rfl)
        | (apply es_alloc hT; (iterate 5 exact rfl); first | ((fail_if_success (have q := g6)); intro g6) | intro _)
        | (apply es_callQ (hs := (hI.mono (by simp))); (iterate 7 exact rfl))
        | (apply es_call (hs := (FSpec.perm (hc1 g6) (by (repeat (first | exact List.Perm.refl _ | (apply permC; · (repeat (first | exact sel0 | apply selS)))))))); (iterate 7 exact rfl); rintro _ _ ⟨Af, cf, Ag, cg, A3, c3, rfl, rfl, hfF, hfG⟩)
        | (apply es_call (hs := (FSpec.perm (hc2 g6 Af cf Ag cg A3 c3) (by (repeat (first | exact List.Perm.refl _ | (apply permC; · (repeat (first | exact sel0 | apply selS)))))))); (iterate 7 exact rfl); rintro _ _ ⟨Bf, df, Bg, dg, A4, c4, rfl, rfl, hgF, hgG⟩)
        | (apply es_callQ (hs := (fills_two W _ _ _ _ _ fl hfF hgF (by (repeat (first | exact List.mem_cons_self | apply List.mem_cons_of_mem))) (by (repeat (first | exact List.mem_cons_self | apply List.mem_cons_of_mem))) (by omega))); (iterate 7 exact rfl))
        | (apply es_callQ (hs := (gones_two W _ _ _ _ _ go hfG hgG (by (repeat (first | exact List.mem_cons_self | apply List.mem_cons_of_mem))) (by (repeat (first | exact List.mem_cons_self | apply List.mem_cons_of_mem))) (by omega))); (iterate 7 exact rfl))
        | (apply es_callQ (hs := (same15 W _ p q A3 A4 c3 c4 bk hBn (by (repeat (first | exact List.mem_cons_self | apply List.mem_cons_of_mem))) (by (repeat (first | exact List.mem_cons_self | apply List.mem_cons_of_mem))) (by (repeat (first | exact List.mem_cons_self | apply List.mem_cons_of_mem))) (by (repeat (first | exact List.mem_cons_self | apply List.mem_cons_of_mem))))); (iterate 7 exact rfl))
        | (apply es_store hT; (iterate 6 exact rfl); (repeat (first | exact sel0 | apply selS)); (iterate 3 exact rfl); exact Nat.le_of_ble_eq_true rfl)
        | (apply es_load; (iterate 5 exact rfl); first | (apply ld_blk hT; exact rfl; exact rfl; (repeat (first | exact List.mem_cons_self | apply List.mem_cons_of_mem)); exact rfl; exact rfl) | (apply ld_all hT; exact rfl; exact rfl; (repeat (first | exact List.mem_cons_self | apply List.mem_cons_of_mem)); exact rfl))
        | (apply es_box; (iterate 5 exact rfl); intro _) | (apply es_alloc hT; (iterate 5 exact rfl); intro _)
        | (apply aw_condT; (iterate 2 exact rfl)) | (apply aw_condF; (iterate 2 exact rfl))
        | (apply es_case; exact rfl; all_goals intro hb; all_goals (try dsimp only at hb); all_goals (try simp only [hb]); all_goals (first | replace hb := of_decide_eq_true hb | replace hb := of_decide_eq_false hb | replace hb := bne_t hb | replace hb := bne_f hb | replace hb := eq_of_beq hb | replace hb := ne_of_beq_false hb | skip); all_goals (try (exfalso; omega)))
        | (apply aw_cond; exact rfl; all_goals intro hb; all_goals (try dsimp only at hb); all_goals (try simp only [hb]); all_goals (first | replace hb := of_decide_eq_true hb | replace hb := of_decide_eq_false hb | replace hb := bne_t hb | replace hb := bne_f hb | replace hb := eq_of_beq hb | replace hb := ne_of_beq_false hb | skip); all_goals (try (exfalso; omega))))
      all_goals first
        | (exfalso; omega)
        | exact loopq_end (k + 1, bk, A3, c3, A4, c4) (by dsimp only; omega) ⟨by dsimp only; omega, hBn⟩ ⟨rfl, rfl, rfl, rfl, trivial⟩ (by (repeat (first | exact dt_end | (apply dt_cons; · (repeat (first | exact sel0 | apply selS))) | apply dt_skip)))
        | skip
    · rw [hsd] at hI
      have hw2 := ref15_Would W q A2 c2 l x.order x.how hB hsd
      generalize wouldV x.how x.order l = wv at hw1 hw2
      generalize (doV x.how x.order l).fills = fl at hc1 hc2 hln
      generalize (doV x.how x.order l).gones = go at hc1 hc2 hln
      generalize (doV x.how x.order l).bk = bk at hc1 hc2 hBn
      generalize (doV x.how x.order l).left = lf at hc1 hc2
      generalize (doV x.how x.order l).err = er at hc1 hc2
      repeat' (first
        | (apply es_diffB hT; (iterate 5 exact rfl))
        | apply aw_seq | apply aw_region | apply aw_ret | apply aw_skip | apply aw_exit | apply aw_block | apply es_nil
        | (apply es_pure hT; (iterate 4 exact rfl)) | (apply es_skip; (iterate 3 exact rfl)) | (apply es_skip0; (iterate 2 exact rfl))
        | (apply es_i64 hT; (iterate 4 exact rfl); (iterate 2 (first | omega | (dsimp only; omega))))
        | (apply aw_draw [25, 64, 65] [] hmix; decide +kernel)
        | (apply aw_treeD [] [] (.step 0 <| .step 1 <| .step 2 <| .step 3 <| .step 4 <| .step 5 <| .step 6 <| .step 7 <| .step 8 <| .alt (.step 9 <| .step 10 <| .step 11 <| .step 12 <| .nil) ((.step 10 <| .alt (.step 9 <| .step 11 <| .step 12 <| .nil) ((.step 11 <| .step 9 <| .step 12 <| .nil))))) hmix; decide +kernel) | apply ep_nil | apply ep_alt | (apply ep_step; exact rfl)
        | (apply es_idx hT; (iterate 8 exact rfl); (iterate 2 omega); exact hA)
        | (apply es_load; (iterate 5 exact rfl); first | exact ld_fld hT rfl rfl (hr0.mono (by simp)) Act15.enc_len (adr_add _ _ _) hx2 (f := 6) (by decide) rfl | exact ld_sub hT rfl rfl (hr0.mono (by simp)) Act15.enc_len (adr_add _ _ _) hx2 (f := 0) (vs := x.order.enc) (Nat.le_of_ble_eq_true rfl) rfl rfl)
        | (apply es_alloc hT; (iterate 5 exact rfl); first | ((fail_if_success (have q := g6)); intro g6) | intro _)
        | (apply es_callQ (hs := (hI.mono (by simp))); (iterate 7 exact rfl))
        | (apply es_callQ (hs := (hw1.mono (memPairB mem1 mem2))); (iterate 7 exact rfl))
        | (apply es_callQ (hs := (hw2.mono (memPairB mem3 mem4))); (iterate 7 exact rfl))
        | (apply es_call (hs := (FSpec.perm (hc1 g6) (by (repeat (first | exact List.Perm.refl _ | (apply permC; · (repeat (first | exact sel0 | apply selS)))))))); (iterate 7 exact rfl); rintro _ _ ⟨Af, cf, Ag, cg, A3, c3, rfl, rfl, hfF, hfG⟩)
        | (apply es_call (hs := (FSpec.perm (hc2 g6 Af cf Ag cg A3 c3) (by (repeat (first | exact List.Perm.refl _ | (apply permC; · (repeat (first | exact sel0 | apply selS)))))))); (iterate 7 exact rfl); rintro _ _ ⟨Bf, df, Bg, dg, A4, c4, rfl, rfl, hgF, hgG⟩)
        | (apply es_callQ (hs := (fills_two W _ _ _ _ _ fl hfF hgF (by (repeat (first | exact List.mem_cons_self | apply List.mem_cons_of_mem))) (by (repeat (first | exact List.mem_cons_self | apply List.mem_cons_of_mem))) (by omega))); (iterate 7 exact rfl))
        | (apply es_callQ (hs := (gones_two W _ _ _ _ _ go hfG hgG (by (repeat (first | exact List.mem_cons_self | apply List.mem_cons_of_mem))) (by (repeat (first | exact List.mem_cons_self | apply List.mem_cons_of_mem))) (by omega))); (iterate 7 exact rfl))
        | (apply es_callQ (hs := (same15 W _ p q A3 A4 c3 c4 bk hBn (by (repeat (first | exact List.mem_cons_self | apply List.mem_cons_of_mem))) (by (repeat (first | exact List.mem_cons_self | apply List.mem_cons_of_mem))) (by (repeat (first | exact List.mem_cons_self | apply List.mem_cons_of_mem))) (by (repeat (first | exact List.mem_cons_self | apply List.mem_cons_of_mem))))); (iterate 7 exact rfl))
        | (apply es_store hT; (iterate 6 exact rfl); (repeat (first | exact sel0 | apply selS)); (iterate 3 exact rfl); exact Nat.le_of_ble_eq_true rfl)
        | (apply es_load; (iterate 5 exact rfl); first | (apply ld_blk hT; exact rfl; exact rfl; (repeat (first | exact List.mem_cons_self | apply List.mem_cons_of_mem)); exact rfl; exact rfl) | (apply ld_all hT; exact rfl; exact rfl; (repeat (first | exact List.mem_cons_self | apply List.mem_cons_of_mem)); exact rfl))
        | (apply es_box; (iterate 5 exact rfl); intro _) | (apply es_alloc hT; (iterate 5 exact rfl); intro _)
        | (apply aw_condT; (iterate 2 exact rfl)) | (apply aw_condF; (iterate 2 exact rfl))
        | (apply es_case; exact rfl; all_goals intro hb; all_goals (try dsimp only at hb); all_goals (try simp only [hb]); all_goals (first | replace hb := of_decide_eq_true hb | replace hb := of_decide_eq_false hb | replace hb := bne_t hb | replace hb := bne_f hb | replace hb := eq_of_beq hb | replace hb := ne_of_beq_false hb | skip); all_goals (try (exfalso; omega)))
        | (apply aw_cond; exact rfl; all_goals intro hb; all_goals (try dsimp only at hb); all_goals (try simp only [hb]); all_goals (first | replace hb := of_decide_eq_true hb | replace hb := of_decide_eq_false hb | replace hb := bne_t hb | replace hb := bne_f hb | replace hb := eq_of_beq hb | replace hb := ne_of_beq_false hb | skip); all_goals (try (exfalso; omega))))
      all_goals first
        | (exfalso; omega)
        | exact loopq_end (k + 1, bk, A3, c3, A4, c4) (by dsimp only; omega) ⟨by dsimp only; omega, hBn⟩ ⟨rfl, rfl, rfl, rfl, trivial⟩ (by (repeat (first | exact dt_end | (apply dt_cons; · (repeat (first | exact sel0 | apply selS))) | apply dt_skip)))
        | skip
  · obtain rfl : k = ls.length := by omega
    have hd1 : decide ((ls.length : Int) < (ls.length : Int)) = false := by simp
    have hkn := cross_known W
    repeat' (first
      | apply aw_seq | apply aw_region | apply aw_ret | apply aw_skip | apply aw_exit | apply aw_block | apply es_nil
      | (apply es_pure hT; (iterate 4 exact rfl)) | (apply es_skip; (iterate 3 exact rfl)) | (apply es_skip0; (iterate 2 exact rfl))
      | (apply es_i64 hT; (iterate 4 exact rfl); (iterate 2 (first | omega | (dsimp only; omega))))
      | (apply aw_draw [] [] hmix; decide +kernel)
      | (apply es_callQ (hs := (hkn.mono (by simp))); (iterate 7 exact rfl))
      | (apply es_load; (iterate 5 exact rfl); first | (apply ld_blk hT; exact rfl; exact rfl; (repeat (first | exact List.mem_cons_self | apply List.mem_cons_of_mem)); exact rfl; exact rfl) | (apply ld_all hT; exact rfl; exact rfl; (repeat (first | exact List.mem_cons_self | apply List.mem_cons_of_mem)); exact rfl))
      | (apply es_box; (iterate 5 exact rfl); intro _) | (apply es_alloc hT; (iterate 5 exact rfl); intro _)
      | (apply aw_condT; (iterate 2 exact rfl)) | (apply aw_condF; (iterate 2 exact rfl))
      | (apply es_case; exact rfl; all_goals intro hb; all_goals (try dsimp only at hb); all_goals (try simp only [hb]); all_goals (first | replace hb := of_decide_eq_true hb | replace hb := of_decide_eq_false hb | replace hb := bne_t hb | replace hb := bne_f hb | replace hb := eq_of_beq hb | replace hb := ne_of_beq_false hb | skip); all_goals (try (exfalso; omega)))
      | (apply aw_cond; exact rfl; all_goals intro hb; all_goals (try dsimp only at hb); all_goals (try simp only [hb]); all_goals (first | replace hb := of_decide_eq_true hb | replace hb := of_decide_eq_false hb | replace hb := bne_t hb | replace hb := bne_f hb | replace hb := eq_of_beq hb | replace hb := ne_of_beq_false hb | skip); all_goals (try (exfalso; omega))))
    all_goals first
      | (exfalso; omega)
      | (apply ret1; exact rfl; exact rfl)
      | (exfalso; simp_all; done)
end Go.Proofs.Ytiefkpfamkkapaa
