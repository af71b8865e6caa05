/- What the statement CrossStays answers. Conditions stand in each statement. -/
import Derived.Test.YtiefkpfamkkapaaCrossX
import Derived.Test.YtiefkpfamkkapaaCrossP
set_option linter.unusedSimpArgs false
set_option linter.unusedVariables false
namespace Go.Proofs.Ytiefkpfamkkapaa
open Go Go.Sl
attribute [local irreducible] AW ES EP Ld RetQ
set_option maxRecDepth 100000

theorem sumG_cons (x : GoneR) (l : List GoneR) : sumG (x :: l) = x.left + sumG l := by simp [sumG]
theorem sumG_take {l : List GoneR} (h : ∀ f ∈ l, 1 ≤ f.left) : ∀ k, 0 ≤ sumG (l.take k) ∧ sumG (l.take k) ≤ sumG l := by
  induction l with
  | nil => intro k; simp [sumG]
  | cons x l ih =>
    intro k
    have hx := h x List.mem_cons_self
    have h0 := (ih (fun f hf => h f (List.mem_cons_of_mem _ hf)) 0)
    have z : sumG [] = 0 := rfl
    cases k with
    | zero => rw [List.take_zero, z, sumG_cons]; rw [List.take_zero, z] at h0; omega
    | succ k => have := ih (fun f hf => h f (List.mem_cons_of_mem _ hf)) k; rw [List.take_succ_cons, sumG_cons, sumG_cons]; omega
theorem sumQ_take' {l : List FillR} (h : ∀ f ∈ l, 1 ≤ f.qty) : ∀ k, 0 ≤ sumQ (l.take k) ∧ sumQ (l.take k) ≤ sumQ l := by
  induction l with
  | nil => intro k; simp [sumQ]
  | cons x l ih =>
    intro k
    have hx := h x List.mem_cons_self
    have h0 := (ih (fun f hf => h f (List.mem_cons_of_mem _ hf)) 0)
    have z : sumQ [] = 0 := rfl
    have e : ∀ u : List FillR, sumQ (x :: u) = x.qty + sumQ u := fun u => by simp [sumQ]
    cases k with
    | zero => rw [List.take_zero, z, e]; rw [List.take_zero, z] at h0; omega
    | succ k => have := ih (fun f hf => h f (List.mem_cons_of_mem _ hf)) k; rw [List.take_succ_cons, e, e]; omega

set_option maxHeartbeats 4000000 in
theorem cross_Stays (W : World) (A0 : Option Addr) (c0 : Nat) (ls : List Act15) (hr0 : Reads W [] A0 ls.length 7 (ls.flatMap Act15.enc)) :
    FSpec Try.prog W 24 [.slice A0 ls.length c0] [] (fun v _ => v = .bool true) := by
  refine spec_body Try.func24 rfl rfl Try.results24 Try.ntmps24 rfl rfl ?_
  refine aw_reads hr0 (by rfl) (fun hA0 => ?_)
  by_cases h1 : ls.length > 80
  · repeat' (first
      | apply aw_seq | apply aw_region | apply aw_ret | apply aw_skip | apply aw_exit | apply aw_block | apply es_nil
      | (apply es_pure hT; (iterate 4 exact rfl)) | (apply es_skip; (iterate 3 exact rfl)) | (apply es_skip0; (iterate 2 exact rfl))
      | (apply es_i64 hT; (iterate 4 exact rfl); (iterate 2 (first | omega | (dsimp only; omega))))
      | (apply aw_draw [] [] hmix; decide +kernel)
      | (apply es_load; (iterate 5 exact rfl); first | (apply ld_blk hT; exact rfl; exact rfl; (repeat (first | exact List.mem_cons_self | apply List.mem_cons_of_mem)); exact rfl; exact rfl) | (apply ld_all hT; exact rfl; exact rfl; (repeat (first | exact List.mem_cons_self | apply List.mem_cons_of_mem)); exact rfl))
      | (apply es_box; (iterate 5 exact rfl); intro _) | (apply es_alloc hT; (iterate 5 exact rfl); intro _)
      | (apply aw_condT; (iterate 2 exact rfl)) | (apply aw_condF; (iterate 2 exact rfl))
      | (apply es_case; exact rfl; all_goals intro hb; all_goals (fail_if_success (change true = true at hb)); all_goals (fail_if_success (change false = false at hb)); all_goals (try dsimp only at hb); all_goals (try simp only [hb]); all_goals (first | replace hb := of_decide_eq_true hb | replace hb := of_decide_eq_false hb | replace hb := bne_t hb | replace hb := bne_f hb | replace hb := eq_of_beq hb | replace hb := ne_of_beq_false hb | skip); all_goals (try (exfalso; omega)))
      | (apply aw_cond; exact rfl; all_goals intro hb; all_goals (try dsimp only at hb); all_goals (try simp only [hb]); all_goals (first | replace hb := of_decide_eq_true hb | replace hb := of_decide_eq_false hb | replace hb := bne_t hb | replace hb := bne_f hb | replace hb := eq_of_beq hb | replace hb := ne_of_beq_false hb | skip); all_goals (try (exfalso; omega))))
    apply ret1; exact rfl; exact rfl
  repeat' (first
    | apply aw_seq | apply aw_region | apply aw_ret | apply aw_skip | apply aw_exit | apply aw_block | apply es_nil
    | (apply es_pure hT; (iterate 4 exact rfl)) | (apply es_skip; (iterate 3 exact rfl)) | (apply es_skip0; (iterate 2 exact rfl))
    | (apply es_i64 hT; (iterate 4 exact rfl); (iterate 2 (first | omega | (dsimp only; omega))))
    | (apply aw_draw [] [] hmix; decide +kernel)
    | (apply es_call (hs := (book_New W _)); (iterate 7 exact rfl); rintro _ _ ⟨p, A, c, rfl, rfl⟩)
    | (apply es_load; (iterate 5 exact rfl); first | (apply ld_blk hT; exact rfl; exact rfl; (repeat (first | exact List.mem_cons_self | apply List.mem_cons_of_mem)); exact rfl; exact rfl) | (apply ld_all hT; exact rfl; exact rfl; (repeat (first | exact List.mem_cons_self | apply List.mem_cons_of_mem)); exact rfl))
    | (apply es_box; (iterate 5 exact rfl); intro _) | (apply es_alloc hT; (iterate 5 exact rfl); intro _)
    | (apply aw_condT; (iterate 2 exact rfl)) | (apply aw_condF; (iterate 2 exact rfl))
    | (apply es_case; exact rfl; all_goals intro hb; all_goals (fail_if_success (change true = true at hb)); all_goals (fail_if_success (change false = false at hb)); all_goals (try dsimp only at hb); all_goals (try simp only [hb]); all_goals (first | replace hb := of_decide_eq_true hb | replace hb := of_decide_eq_false hb | replace hb := bne_t hb | replace hb := bne_f hb | replace hb := eq_of_beq hb | replace hb := ne_of_beq_false hb | skip); all_goals (try (exfalso; omega)))
    | (apply aw_cond; exact rfl; all_goals intro hb; all_goals (try dsimp only at hb); all_goals (try simp only [hb]); all_goals (first | replace hb := of_decide_eq_true hb | replace hb := of_decide_eq_false hb | replace hb := bne_t hb | replace hb := bne_f hb | replace hb := eq_of_beq hb | replace hb := ne_of_beq_false hb | skip); all_goals (try (exfalso; omega))))
  all_goals try (exfalso; omega)
  refine aw_loopD (α := Nat × List Order × Option Addr × Nat) (E := fun x => [(0, .slice A0 ls.length c0), (3, .pointer (some ⟨p, 0, none⟩)), (4, .int .i64 x.1)])
    (H := fun x => bookTab p x.2.2.1 x.2.2.2 x.2.1 []) (μ := fun x => ls.length - x.1)
    (S := fun x => x.1 ≤ ls.length ∧ BookB x.2.1 ∧ uncr x.2.1) (0, [], A, c)
    ⟨Nat.zero_le _, BookB.nil, fun a ha => (by cases ha)⟩ ⟨rfl, rfl, rfl, trivial⟩ (by (repeat (first | exact dt_end | (apply dt_cons; · (repeat (first | exact sel0 | apply selS))) | apply dt_skip))) ?_
  rintro ⟨k, l, A1, c1⟩ ⟨hk, hB, hu⟩
  dsimp only at hk hB hu ⊢
  by_cases hlt : k < ls.length
  · obtain ⟨x, hx⟩ : ∃ x, ls[k]? = some x := ⟨ls[k]'(by omega), List.getElem?_eq_getElem (by omega)⟩
    have hx2 : ls[(k : Int).toNat]? = some x := by simpa using hx
    have hA := hA0 (by omega)
    have hd1 : decide ((k : Int) < (ls.length : Int)) = true := by simp; omega
    have hal := law15_all W p A1 c1 l hB
    have hdo := fun F => cross_Do W F p A1 c1 l x.order x.how hB
    have hbd := sumL_bd hB.left
    have hbl := hB.len
    by_cases hw0 : wrongV x.how x.order l = 0
    rotate_left
    · have hd := doV_bad hw0
      have d1 : (doV x.how x.order l).fills.length = 0 := by rw [hd]; rfl
      have d2 : (doV x.how x.order l).gones.length = 0 := by rw [hd]; rfl
      have d3 : (doV x.how x.order l).left = 0 := by rw [hd]
      have d4 : (doV x.how x.order l).err = wrongV x.how x.order l := by rw [hd]
      have d5 : (doV x.how x.order l).bk = l := by rw [hd]
      rw [d3, d4, d5] at hdo
      have hal3 := fun A3 c3 => law15_all W p A3 c3 l hB
      generalize (doV x.how x.order l).fills = fl at hdo d1
      generalize (doV x.how x.order l).gones = go at hdo d2
      generalize wrongV x.how x.order l = er at hdo hw0
      generalize sumL l = sl at hal hal3 hbd
      repeat' (first
        | (apply es_diffB hT; (iterate 5 exact rfl))
        | apply aw_seq | apply aw_region | apply aw_ret | apply aw_skip | apply aw_exit | apply aw_block | apply es_nil
        | (apply es_pure hT; (iterate 4 exact rfl)) | (apply es_skip; (iterate 3 exact rfl)) | (apply es_skip0; (iterate 2 exact rfl))
        | (apply es_i64 hT; (iterate 4 exact rfl); (iterate 2 (first | omega | (dsimp only; omega))))
        | (apply aw_draw [75] [] hmix; decide +kernel)
        | (apply aw_treeD [] [] (.step 0 <| .step 1 <| .step 2 <| .step 3 <| .step 4 <| .step 5 <| .step 6 <| .step 7 <| .step 8 <| .step 9 <| .step 10 <| .step 11 <| .step 12 <| .step 13 <| .step 14 <| .step 15 <| .step 16 <| .nil) hmix; decide +kernel) | apply ep_nil | apply ep_alt | (apply ep_step; exact rfl)
        | (apply es_idx hT; (iterate 8 exact rfl); (iterate 2 omega); exact hA)
        | (apply es_load; (iterate 5 exact rfl); first | exact ld_fld hT rfl rfl (hr0.mono (by simp)) Act15.enc_len (adr_add _ _ _) hx2 (f := 6) (by decide) rfl | exact ld_sub hT rfl rfl (hr0.mono (by simp)) Act15.enc_len (adr_add _ _ _) hx2 (f := 0) (vs := x.order.enc) (Nat.le_of_ble_eq_true rfl) rfl rfl)
        | (apply es_alloc hT; (iterate 5 exact rfl); first | ((fail_if_success (have q := g5)); intro g5) | intro _)
        | (apply es_store hT; (iterate 6 exact rfl); (repeat (first | exact sel0 | apply selS)); (iterate 3 exact rfl); exact Nat.le_of_ble_eq_true rfl)
        | (apply es_callQ (hs := ((hal3 A3 c3).mono (memPairB (by (repeat (first | exact List.mem_cons_self | apply List.mem_cons_of_mem))) (by (repeat (first | exact List.mem_cons_self | apply List.mem_cons_of_mem)))))); (iterate 7 exact rfl))
        | (apply es_callQ (hs := (hal.mono (memPairB (by (repeat (first | exact List.mem_cons_self | apply List.mem_cons_of_mem))) (by (repeat (first | exact List.mem_cons_self | apply List.mem_cons_of_mem)))))); (iterate 7 exact rfl))
        | (apply es_call (hs := (FSpec.perm (hdo [.blk g5 29 x.order.enc]) (by (repeat (first | exact List.Perm.refl _ | (apply permC; · (repeat (first | exact sel0 | apply selS)))))))); (iterate 7 exact rfl); rintro _ _ ⟨Af, cf, Ag, cg, A3, c3, rfl, rfl, hfF, hfG⟩)
        | (apply es_load; (iterate 5 exact rfl); first | (apply ld_blk hT; exact rfl; exact rfl; (repeat (first | exact List.mem_cons_self | apply List.mem_cons_of_mem)); exact rfl; exact rfl) | (apply ld_all hT; exact rfl; exact rfl; (repeat (first | exact List.mem_cons_self | apply List.mem_cons_of_mem)); exact rfl))
        | (apply es_box; (iterate 5 exact rfl); intro _) | (apply es_alloc hT; (iterate 5 exact rfl); intro _)
        | (apply aw_condT; (iterate 2 exact rfl)) | (apply aw_condF; (iterate 2 exact rfl))
        | (apply es_case; exact rfl; all_goals intro hb; all_goals (fail_if_success (change true = true at hb)); all_goals (fail_if_success (change false = false at hb)); all_goals (try dsimp only at hb); all_goals (try simp only [hb]); all_goals (first | replace hb := of_decide_eq_true hb | replace hb := of_decide_eq_false hb | replace hb := bne_t hb | replace hb := bne_f hb | replace hb := eq_of_beq hb | replace hb := ne_of_beq_false hb | skip); all_goals (try (exfalso; omega)))
        | (apply aw_cond; exact rfl; all_goals intro hb; all_goals (try dsimp only at hb); all_goals (try simp only [hb]); all_goals (first | replace hb := of_decide_eq_true hb | replace hb := of_decide_eq_false hb | replace hb := bne_t hb | replace hb := bne_f hb | replace hb := eq_of_beq hb | replace hb := ne_of_beq_false hb | skip); all_goals (try (exfalso; omega))))
      all_goals first
        | (exfalso; omega)
        | exact loopq_end (k + 1, l, A3, c3) (by dsimp only; omega) ⟨by dsimp only; omega, hB, hu⟩ ⟨rfl, rfl, rfl, trivial⟩ (by (repeat (first | exact dt_end | (apply dt_cons; · (repeat (first | exact sel0 | apply selS))) | apply dt_skip)))
        | skip
    obtain ⟨hs1, hs2, hs3, hs4, hs5, hs6, hs7⟩ := stays_law hB hu hw0
    have he : (doV x.how x.order l).err = 0 := (doV_way hB hw0).2.2.2
    have hol := newB_left (wrong_new' hw0)
    have hBn := doV_B (how := x.how) (o := x.order) hB
    have hln := doV_lens' (how := x.how) (o := x.order) hB
    have hq := sumQ_take' (fun f hf => (hs6 f hf).1)
    have hg := sumG_take hs5
    rw [he] at hdo
    have hal3 := fun A3 c3 => law15_all W p A3 c3 _ hBn
    have hlev1 := fun A c h m1 m2 => book_Levels W h p A c _ 1 m1 m2 hBn.le hBn.seq hBn.side hBn.left
    have hlev2 := fun A c h m1 m2 => book_Levels W h p A c _ 2 m1 m2 hBn.le hBn.seq hBn.side hBn.left
    have hcr := fun v hv w hw => uncr_levels (v := v) (w := w) hs1 hv hw
    generalize (doV x.how x.order l).fills = fl at *
    generalize (doV x.how x.order l).gones = go at *
    generalize (doV x.how x.order l).bk = bk at *
    generalize (doV x.how x.order l).left = lf at *
    generalize levelsO (sideO 1 bk) = v1 at hlev1 hcr
    generalize levelsO (sideO 2 bk) = v2 at hlev2 hcr
    generalize sumL l = sl at *
    generalize sumL bk = sb at *
    repeat' (first
      | (apply es_diffB hT; (iterate 5 exact rfl))
      | apply aw_seq | apply aw_region | apply aw_ret | apply aw_skip | apply aw_exit | apply aw_block | apply es_nil
      | (apply es_pure hT; (iterate 4 exact rfl)) | (apply es_skip; (iterate 3 exact rfl)) | (apply es_skip0; (iterate 2 exact rfl))
      | (apply es_i64 hT; (iterate 4 exact rfl); (iterate 2 (first | omega | (dsimp only; omega))))
      | (apply aw_draw [75] [] hmix; decide +kernel)
      | (apply aw_treeD [] [] (.step 0 <| .step 1 <| .step 2 <| .step 3 <| .step 4 <| .step 5 <| .step 6 <| .step 7 <| .step 8 <| .step 9 <| .step 10 <| .step 11 <| .step 12 <| .step 13 <| .step 14 <| .step 15 <| .step 16 <| .nil) hmix; decide +kernel) | apply ep_nil | apply ep_alt | (apply ep_step; exact rfl)
      | (apply es_idx hT; (iterate 8 exact rfl); (iterate 2 omega); exact hA)
      | (apply es_load; (iterate 5 exact rfl); first | exact ld_fld hT rfl rfl (hr0.mono (by simp)) Act15.enc_len (adr_add _ _ _) hx2 (f := 6) (by decide) rfl | exact ld_sub hT rfl rfl (hr0.mono (by simp)) Act15.enc_len (adr_add _ _ _) hx2 (f := 0) (vs := x.order.enc) (Nat.le_of_ble_eq_true rfl) rfl rfl)
      | (apply es_alloc hT; (iterate 5 exact rfl); first | ((fail_if_success (have q := g5)); intro g5) | intro _)
      | (apply es_store hT; (iterate 6 exact rfl); (repeat (first | exact sel0 | apply selS)); (iterate 3 exact rfl); exact Nat.le_of_ble_eq_true rfl)
      | (apply es_callQ (hs := ((hal3 A3 c3).mono (memPairB (by (repeat (first | exact List.mem_cons_self | apply List.mem_cons_of_mem))) (by (repeat (first | exact List.mem_cons_self | apply List.mem_cons_of_mem)))))); (iterate 7 exact rfl))
      | (apply es_callQ (hs := (hal.mono (memPairB (by (repeat (first | exact List.mem_cons_self | apply List.mem_cons_of_mem))) (by (repeat (first | exact List.mem_cons_self | apply List.mem_cons_of_mem)))))); (iterate 7 exact rfl))
      | (apply es_call (hs := (FSpec.perm (hdo [.blk g5 29 x.order.enc]) (by (repeat (first | exact List.Perm.refl _ | (apply permC; · (repeat (first | exact sel0 | apply selS)))))))); (iterate 7 exact rfl); rintro _ _ ⟨Af, cf, Ag, cg, A3, c3, rfl, rfl, hfF, hfG⟩)
      | (apply es_load; (iterate 5 exact rfl); first | (apply ld_blk hT; exact rfl; exact rfl; (repeat (first | exact List.mem_cons_self | apply List.mem_cons_of_mem)); exact rfl; exact rfl) | (apply ld_all hT; exact rfl; exact rfl; (repeat (first | exact List.mem_cons_self | apply List.mem_cons_of_mem)); exact rfl))
      | (apply es_box; (iterate 5 exact rfl); intro _) | (apply es_alloc hT; (iterate 5 exact rfl); intro _)
      | (apply aw_condT; (iterate 2 exact rfl)) | (apply aw_condF; (iterate 2 exact rfl))
      | (apply es_case; exact rfl; all_goals intro hb; all_goals (fail_if_success (change true = true at hb)); all_goals (fail_if_success (change false = false at hb)); all_goals (try dsimp only at hb); all_goals (try simp only [hb]); all_goals (first | replace hb := of_decide_eq_true hb | replace hb := of_decide_eq_false hb | replace hb := bne_t hb | replace hb := bne_f hb | replace hb := eq_of_beq hb | replace hb := ne_of_beq_false hb | skip); all_goals (try (exfalso; omega)))
      | (apply aw_cond; exact rfl; all_goals intro hb; all_goals (try dsimp only at hb); all_goals (try simp only [hb]); all_goals (first | replace hb := of_decide_eq_true hb | replace hb := of_decide_eq_false hb | replace hb := bne_t hb | replace hb := bne_f hb | replace hb := eq_of_beq hb | replace hb := ne_of_beq_false hb | skip); all_goals (try (exfalso; omega))))
    all_goals try (exfalso; omega)
    refine aw_loopD (α := Nat) (E := fun i => [(0, .slice A0 ls.length c0), (3, .pointer (some ⟨p, 0, none⟩)), (4, .int .i64 k), (5, .pointer (some ⟨g5, 0, none⟩)), (6, .int .i64 sl), (7, .slice Af fl.length cf), (8, .slice Ag go.length cg), (9, .int .i64 lf), (11, .int .i64 (lf + sumQ (fl.take i))), (12, .int .i64 (sumQ (fl.take i))), (13, .int .i64 i)])
      (H := fun _ => .own Af fl.length cf 95 7 (fl.flatMap FillR.enc) :: .own Ag go.length cg 103 3 (go.flatMap GoneR.enc) :: bookTab p A3 c3 bk [.blk g5 29 x.order.enc]) (μ := fun i => fl.length - i)
      (S := fun i => i ≤ fl.length) 0 (Nat.zero_le _) ⟨rfl, rfl, rfl, rfl, rfl, rfl, rfl, rfl, by rw [show lf + sumQ (fl.take 0) = lf by simp [sumQ]]; rfl, rfl, rfl, trivial⟩ (by (repeat (first | exact dt_end | (apply dt_cons; · (repeat (first | exact sel0 | apply selS))) | apply dt_skip))) ?_
    intro i hi
    by_cases hli : i < fl.length
    · obtain ⟨f, hf⟩ : ∃ f, fl[i]? = some f := ⟨fl[i]'(by omega), List.getElem?_eq_getElem (by omega)⟩
      have hf2 : fl[(i : Int).toNat]? = some f := by simpa using hf
      have hAf := hfF.some_ (by omega)
      have hd2 : decide ((i : Int) < (fl.length : Int)) = true := by simp; omega
      have q1 := hq i
      have q2 := hq (i + 1)
      obtain ⟨k1, k2, k3⟩ := hs6 f (List.mem_of_getElem? hf)
      have hqi : sumQ (fl.take (i + 1)) = sumQ (fl.take i) + f.qty := by rw [List.take_add_one, hf, sumQ_app]; simp [sumQ]
      rw [hqi] at q2
      generalize sumQ (fl.take i) = si at q1 q2 hqi ⊢
      repeat' (first
        | apply aw_seq | apply aw_region | apply aw_ret | apply aw_skip | apply aw_exit | apply aw_block | apply es_nil
        | (apply es_pure hT; (iterate 4 exact rfl)) | (apply es_skip; (iterate 3 exact rfl)) | (apply es_skip0; (iterate 2 exact rfl))
        | (apply es_i64 hT; (iterate 4 exact rfl); (iterate 2 (first | omega | (dsimp only; omega))))
        | (apply aw_draw [] [] hmix; decide +kernel)
        | (apply es_idx hT; (iterate 8 exact rfl); (iterate 2 omega); exact hAf)
        | (apply es_load; (iterate 5 exact rfl); exact ld_fld hT rfl rfl (hfF.reads mem0) FillR.enc_len (adr_add _ _ _) hf2 (by decide) rfl)
        | (apply es_load; (iterate 5 exact rfl); first | (apply ld_blk hT; exact rfl; exact rfl; (repeat (first | exact List.mem_cons_self | apply List.mem_cons_of_mem)); exact rfl; exact rfl) | (apply ld_all hT; exact rfl; exact rfl; (repeat (first | exact List.mem_cons_self | apply List.mem_cons_of_mem)); exact rfl))
        | (apply es_box; (iterate 5 exact rfl); intro _) | (apply es_alloc hT; (iterate 5 exact rfl); intro _)
        | (apply aw_condT; (iterate 2 exact rfl)) | (apply aw_condF; (iterate 2 exact rfl))
        | (apply es_case; exact rfl; all_goals intro hb; all_goals (fail_if_success (change true = true at hb)); all_goals (fail_if_success (change false = false at hb)); all_goals (try dsimp only at hb); all_goals (try simp only [hb]); all_goals (first | replace hb := of_decide_eq_true hb | replace hb := of_decide_eq_false hb | replace hb := bne_t hb | replace hb := bne_f hb | replace hb := eq_of_beq hb | replace hb := ne_of_beq_false hb | skip); all_goals (try (exfalso; omega)))
        | (apply aw_cond; exact rfl; all_goals intro hb; all_goals (try dsimp only at hb); all_goals (try simp only [hb]); all_goals (first | replace hb := of_decide_eq_true hb | replace hb := of_decide_eq_false hb | replace hb := bne_t hb | replace hb := bne_f hb | replace hb := eq_of_beq hb | replace hb := ne_of_beq_false hb | skip); all_goals (try (exfalso; omega))))
      all_goals first
        | (exfalso; omega)
        | exact loopq_end (i + 1) (by (try dsimp only); omega) (by (try dsimp only); omega) ⟨rfl, rfl, rfl, rfl, rfl, rfl, rfl, rfl, by (try dsimp only); rw [hqi, ← Int.add_assoc]; rfl, by (try dsimp only); rw [hqi]; rfl, rfl, trivial⟩ dt_end
        | skip
    · obtain rfl : i = fl.length := by omega
      have hd2 : decide ((fl.length : Int) < (fl.length : Int)) = false := by simp
      rw [List.take_length, show lf + sumQ fl = x.order.left by omega]
      have q1 := hq fl.length
      rw [List.take_length] at q1
      generalize sumQ fl = sq at *
      repeat' (first
        | apply aw_seq | apply aw_region | apply aw_ret | apply aw_skip | apply aw_exit | apply aw_block | apply es_nil
        | (apply es_pure hT; (iterate 4 exact rfl)) | (apply es_skip; (iterate 3 exact rfl)) | (apply es_skip0; (iterate 2 exact rfl))
        | (apply es_i64 hT; (iterate 4 exact rfl); (iterate 2 (first | omega | (dsimp only; omega))))
        | (apply aw_draw [] [] hmix; decide +kernel)
        | (apply es_load; (iterate 5 exact rfl); first | (apply ld_blk hT; exact rfl; exact rfl; (repeat (first | exact List.mem_cons_self | apply List.mem_cons_of_mem)); exact rfl; exact rfl) | (apply ld_all hT; exact rfl; exact rfl; (repeat (first | exact List.mem_cons_self | apply List.mem_cons_of_mem)); exact rfl))
        | (apply es_box; (iterate 5 exact rfl); intro _) | (apply es_alloc hT; (iterate 5 exact rfl); intro _)
        | (apply aw_condT; (iterate 2 exact rfl)) | (apply aw_condF; (iterate 2 exact rfl))
        | (apply es_case; exact rfl; all_goals intro hb; all_goals (fail_if_success (change true = true at hb)); all_goals (fail_if_success (change false = false at hb)); all_goals (try dsimp only at hb); all_goals (try simp only [hb]); all_goals (first | replace hb := of_decide_eq_true hb | replace hb := of_decide_eq_false hb | replace hb := bne_t hb | replace hb := bne_f hb | replace hb := eq_of_beq hb | replace hb := ne_of_beq_false hb | skip); all_goals (try (exfalso; omega)))
        | (apply aw_cond; exact rfl; all_goals intro hb; all_goals (try dsimp only at hb); all_goals (try simp only [hb]); all_goals (first | replace hb := of_decide_eq_true hb | replace hb := of_decide_eq_false hb | replace hb := bne_t hb | replace hb := bne_f hb | replace hb := eq_of_beq hb | replace hb := ne_of_beq_false hb | skip); all_goals (try (exfalso; omega))))
      all_goals try (exfalso; omega)
      refine aw_loopD (α := Nat) (E := fun i => [(0, .slice A0 ls.length c0), (3, .pointer (some ⟨p, 0, none⟩)), (4, .int .i64 k), (5, .pointer (some ⟨g5, 0, none⟩)), (6, .int .i64 sl), (8, .slice Ag go.length cg), (9, .int .i64 lf), (11, .int .i64 x.order.left), (12, .int .i64 (sq + sumG (go.take i))), (14, .int .i64 i)])
        (H := fun _ => .own Ag go.length cg 103 3 (go.flatMap GoneR.enc) :: bookTab p A3 c3 bk [.blk g5 29 x.order.enc]) (μ := fun i => go.length - i)
        (S := fun i => i ≤ go.length) 0 (Nat.zero_le _) ⟨rfl, rfl, rfl, rfl, rfl, rfl, rfl, rfl, by rw [show sq + sumG (go.take 0) = sq by simp [sumG]]; rfl, rfl, trivial⟩ (by (repeat (first | exact dt_end | (apply dt_cons; · (repeat (first | exact sel0 | apply selS))) | apply dt_skip))) ?_
      intro i hi
      by_cases hli : i < go.length
      · obtain ⟨f, hf⟩ : ∃ f, go[i]? = some f := ⟨go[i]'(by omega), List.getElem?_eq_getElem (by omega)⟩
        have hf2 : go[(i : Int).toNat]? = some f := by simpa using hf
        have hAg := hfG.some_ (by omega)
        have hd2 : decide ((i : Int) < (go.length : Int)) = true := by simp; omega
        have g1 := hg i
        have g2 := hg (i + 1)
        have hgi : sumG (go.take (i + 1)) = sumG (go.take i) + f.left := by rw [List.take_add_one, hf, sumG_app]; simp [sumG]
        rw [hgi] at g2
        generalize sumG (go.take i) = si at g1 g2 hgi ⊢
        repeat' (first
          | apply aw_seq | apply aw_region | apply aw_ret | apply aw_skip | apply aw_exit | apply aw_block | apply es_nil
          | (apply es_pure hT; (iterate 4 exact rfl)) | (apply es_skip; (iterate 3 exact rfl)) | (apply es_skip0; (iterate 2 exact rfl))
          | (apply es_i64 hT; (iterate 4 exact rfl); (iterate 2 (first | omega | (dsimp only; omega))))
          | (apply aw_draw [] [] hmix; decide +kernel)
          | (apply es_idx hT; (iterate 8 exact rfl); (iterate 2 omega); exact hAg)
          | (apply es_load; (iterate 5 exact rfl); exact ld_fld hT rfl rfl (hfG.reads mem0) GoneR.enc_len (adr_add _ _ _) hf2 (by decide) rfl)
          | (apply es_load; (iterate 5 exact rfl); first | (apply ld_blk hT; exact rfl; exact rfl; (repeat (first | exact List.mem_cons_self | apply List.mem_cons_of_mem)); exact rfl; exact rfl) | (apply ld_all hT; exact rfl; exact rfl; (repeat (first | exact List.mem_cons_self | apply List.mem_cons_of_mem)); exact rfl))
          | (apply es_box; (iterate 5 exact rfl); intro _) | (apply es_alloc hT; (iterate 5 exact rfl); intro _)
          | (apply aw_condT; (iterate 2 exact rfl)) | (apply aw_condF; (iterate 2 exact rfl))
          | (apply es_case; exact rfl; all_goals intro hb; all_goals (fail_if_success (change true = true at hb)); all_goals (fail_if_success (change false = false at hb)); all_goals (try dsimp only at hb); all_goals (try simp only [hb]); all_goals (first | replace hb := of_decide_eq_true hb | replace hb := of_decide_eq_false hb | replace hb := bne_t hb | replace hb := bne_f hb | replace hb := eq_of_beq hb | replace hb := ne_of_beq_false hb | skip); all_goals (try (exfalso; omega)))
          | (apply aw_cond; exact rfl; all_goals intro hb; all_goals (try dsimp only at hb); all_goals (try simp only [hb]); all_goals (first | replace hb := of_decide_eq_true hb | replace hb := of_decide_eq_false hb | replace hb := bne_t hb | replace hb := bne_f hb | replace hb := eq_of_beq hb | replace hb := ne_of_beq_false hb | skip); all_goals (try (exfalso; omega))))
        all_goals first
          | (exfalso; omega)
          | exact loopq_end (i + 1) (by (try dsimp only); omega) (by (try dsimp only); omega) ⟨rfl, rfl, rfl, rfl, rfl, rfl, rfl, rfl, by (try dsimp only); rw [hgi, ← Int.add_assoc]; rfl, rfl, trivial⟩ dt_end
          | skip
      · obtain rfl : i = go.length := by omega
        have hd2 : decide ((go.length : Int) < (go.length : Int)) = false := by simp
        have g1 := hg go.length
        rw [List.take_length] at g1 ⊢
        generalize sumG go = sg at *
        by_cases hst : staysB x.how = true
        · rw [hst, if_pos rfl] at hs2
          have hh : x.how = 0 ∨ x.how = 3 := by simpa [staysB] using hst
          by_cases hv1 : 0 < v1.length
          · obtain ⟨y, hy⟩ : ∃ y, v1[(0 : Int).toNat]? = some y := ⟨v1[0], List.getElem?_eq_getElem hv1⟩
            by_cases hv2 : 0 < v2.length
            · obtain ⟨z, hz⟩ : ∃ z, v2[(0 : Int).toNat]? = some z := ⟨v2[0], List.getElem?_eq_getElem hv2⟩
              have hyz := hcr y (List.mem_of_getElem? hy) z (List.mem_of_getElem? hz)
              repeat' (first
                | (apply es_diffB hT; (iterate 5 exact rfl))
                | apply aw_seq | apply aw_region | apply aw_ret | apply aw_skip | apply aw_exit | apply aw_block | apply es_nil
                | (apply es_pure hT; (iterate 4 exact rfl)) | (apply es_skip; (iterate 3 exact rfl)) | (apply es_skip0; (iterate 2 exact rfl))
                | (apply es_i64 hT; (iterate 4 exact rfl); (iterate 2 (first | omega | (dsimp only; omega))))
                | (apply aw_draw [75] [] hmix; decide +kernel)
                | (apply es_idx hT; (iterate 8 exact rfl); (iterate 2 omega); exact hA)
                | (apply es_load; (iterate 5 exact rfl); exact ld_fld hT rfl rfl (hr0.mono (by simp)) Act15.enc_len (adr_add _ _ _) hx2 (f := 6) (by decide) rfl)
                | (apply es_idx hT; (iterate 8 exact rfl); (iterate 2 omega); first | exact hfL1.some_ (by omega) | exact hfL2.some_ (by omega))
                | (apply es_load; (iterate 5 exact rfl); first | exact ld_fld hT rfl rfl (hfL1.reads (by (repeat (first | exact List.mem_cons_self | apply List.mem_cons_of_mem)))) Lvl.enc_len (adr_add _ _ _) hy (by decide) rfl | exact ld_fld hT rfl rfl (hfL2.reads (by (repeat (first | exact List.mem_cons_self | apply List.mem_cons_of_mem)))) Lvl.enc_len (adr_add _ _ _) hz (by decide) rfl)
                | (apply es_callQ (hs := ((hal3 A3 c3).mono (memPairB (by (repeat (first | exact List.mem_cons_self | apply List.mem_cons_of_mem))) (by (repeat (first | exact List.mem_cons_self | apply List.mem_cons_of_mem)))))); (iterate 7 exact rfl))
                | (apply es_call (hs := (hlev1 A3 c3 _ (by (repeat (first | exact List.mem_cons_self | apply List.mem_cons_of_mem))) (by (repeat (first | exact List.mem_cons_self | apply List.mem_cons_of_mem))))); (iterate 7 exact rfl); rintro _ _ ⟨AL1, cL1, rfl, rfl, hfL1⟩)
                | (apply es_call (hs := (hlev2 A3 c3 _ (by (repeat (first | exact List.mem_cons_self | apply List.mem_cons_of_mem))) (by (repeat (first | exact List.mem_cons_self | apply List.mem_cons_of_mem))))); (iterate 7 exact rfl); rintro _ _ ⟨AL2, cL2, rfl, rfl, hfL2⟩)
                | (apply es_load; (iterate 5 exact rfl); first | (apply ld_blk hT; exact rfl; exact rfl; (repeat (first | exact List.mem_cons_self | apply List.mem_cons_of_mem)); exact rfl; exact rfl) | (apply ld_all hT; exact rfl; exact rfl; (repeat (first | exact List.mem_cons_self | apply List.mem_cons_of_mem)); exact rfl))
                | (apply es_box; (iterate 5 exact rfl); intro _) | (apply es_alloc hT; (iterate 5 exact rfl); intro _)
                | (apply aw_condT; (iterate 2 exact rfl)) | (apply aw_condF; (iterate 2 exact rfl))
                | (apply es_case; exact rfl; all_goals intro hb; all_goals (fail_if_success (change true = true at hb)); all_goals (fail_if_success (change false = false at hb)); all_goals (try dsimp only at hb); all_goals (try simp only [hb]); all_goals (first | replace hb := of_decide_eq_true hb | replace hb := of_decide_eq_false hb | replace hb := bne_t hb | replace hb := bne_f hb | replace hb := eq_of_beq hb | replace hb := ne_of_beq_false hb | skip); all_goals (try (exfalso; omega)))
                | (apply aw_cond; exact rfl; all_goals intro hb; all_goals (try dsimp only at hb); all_goals (try simp only [hb]); all_goals (first | replace hb := of_decide_eq_true hb | replace hb := of_decide_eq_false hb | replace hb := bne_t hb | replace hb := bne_f hb | replace hb := eq_of_beq hb | replace hb := ne_of_beq_false hb | skip); all_goals (try (exfalso; omega))))
              all_goals first
                | (exfalso; omega)
                | exact loopq_end (k + 1, bk, A3, c3) (by dsimp only; omega) ⟨by dsimp only; omega, hBn, hs1⟩ ⟨rfl, rfl, rfl, trivial⟩ (by (repeat (first | exact dt_end | (apply dt_cons; · (repeat (first | exact sel0 | apply selS))) | apply dt_skip)))
                | skip
            · skip
              repeat' (first
                | (apply es_diffB hT; (iterate 5 exact rfl))
                | apply aw_seq | apply aw_region | apply aw_ret | apply aw_skip | apply aw_exit | apply aw_block | apply es_nil
                | (apply es_pure hT; (iterate 4 exact rfl)) | (apply es_skip; (iterate 3 exact rfl)) | (apply es_skip0; (iterate 2 exact rfl))
                | (apply es_i64 hT; (iterate 4 exact rfl); (iterate 2 (first | omega | (dsimp only; omega))))
                | (apply aw_draw [75] [] hmix; decide +kernel)
                | (apply es_idx hT; (iterate 8 exact rfl); (iterate 2 omega); exact hA)
                | (apply es_load; (iterate 5 exact rfl); exact ld_fld hT rfl rfl (hr0.mono (by simp)) Act15.enc_len (adr_add _ _ _) hx2 (f := 6) (by decide) rfl)
                | (apply es_callQ (hs := ((hal3 A3 c3).mono (memPairB (by (repeat (first | exact List.mem_cons_self | apply List.mem_cons_of_mem))) (by (repeat (first | exact List.mem_cons_self | apply List.mem_cons_of_mem)))))); (iterate 7 exact rfl))
                | (apply es_call (hs := (hlev1 A3 c3 _ (by (repeat (first | exact List.mem_cons_self | apply List.mem_cons_of_mem))) (by (repeat (first | exact List.mem_cons_self | apply List.mem_cons_of_mem))))); (iterate 7 exact rfl); rintro _ _ ⟨AL1, cL1, rfl, rfl, hfL1⟩)
                | (apply es_call (hs := (hlev2 A3 c3 _ (by (repeat (first | exact List.mem_cons_self | apply List.mem_cons_of_mem))) (by (repeat (first | exact List.mem_cons_self | apply List.mem_cons_of_mem))))); (iterate 7 exact rfl); rintro _ _ ⟨AL2, cL2, rfl, rfl, hfL2⟩)
                | (apply es_load; (iterate 5 exact rfl); first | (apply ld_blk hT; exact rfl; exact rfl; (repeat (first | exact List.mem_cons_self | apply List.mem_cons_of_mem)); exact rfl; exact rfl) | (apply ld_all hT; exact rfl; exact rfl; (repeat (first | exact List.mem_cons_self | apply List.mem_cons_of_mem)); exact rfl))
                | (apply es_box; (iterate 5 exact rfl); intro _) | (apply es_alloc hT; (iterate 5 exact rfl); intro _)
                | (apply aw_condT; (iterate 2 exact rfl)) | (apply aw_condF; (iterate 2 exact rfl))
                | (apply es_case; exact rfl; all_goals intro hb; all_goals (fail_if_success (change true = true at hb)); all_goals (fail_if_success (change false = false at hb)); all_goals (try dsimp only at hb); all_goals (try simp only [hb]); all_goals (first | replace hb := of_decide_eq_true hb | replace hb := of_decide_eq_false hb | replace hb := bne_t hb | replace hb := bne_f hb | replace hb := eq_of_beq hb | replace hb := ne_of_beq_false hb | skip); all_goals (try (exfalso; omega)))
                | (apply aw_cond; exact rfl; all_goals intro hb; all_goals (try dsimp only at hb); all_goals (try simp only [hb]); all_goals (first | replace hb := of_decide_eq_true hb | replace hb := of_decide_eq_false hb | replace hb := bne_t hb | replace hb := bne_f hb | replace hb := eq_of_beq hb | replace hb := ne_of_beq_false hb | skip); all_goals (try (exfalso; omega))))
              all_goals first
                | (exfalso; omega)
                | exact loopq_end (k + 1, bk, A3, c3) (by dsimp only; omega) ⟨by dsimp only; omega, hBn, hs1⟩ ⟨rfl, rfl, rfl, trivial⟩ (by (repeat (first | exact dt_end | (apply dt_cons; · (repeat (first | exact sel0 | apply selS))) | apply dt_skip)))
                | skip
          · skip
            repeat' (first
              | (apply es_diffB hT; (iterate 5 exact rfl))
              | apply aw_seq | apply aw_region | apply aw_ret | apply aw_skip | apply aw_exit | apply aw_block | apply es_nil
              | (apply es_pure hT; (iterate 4 exact rfl)) | (apply es_skip; (iterate 3 exact rfl)) | (apply es_skip0; (iterate 2 exact rfl))
              | (apply es_i64 hT; (iterate 4 exact rfl); (iterate 2 (first | omega | (dsimp only; omega))))
              | (apply aw_draw [75] [] hmix; decide +kernel)
              | (apply es_idx hT; (iterate 8 exact rfl); (iterate 2 omega); exact hA)
              | (apply es_load; (iterate 5 exact rfl); exact ld_fld hT rfl rfl (hr0.mono (by simp)) Act15.enc_len (adr_add _ _ _) hx2 (f := 6) (by decide) rfl)
              | (apply es_callQ (hs := ((hal3 A3 c3).mono (memPairB (by (repeat (first | exact List.mem_cons_self | apply List.mem_cons_of_mem))) (by (repeat (first | exact List.mem_cons_self | apply List.mem_cons_of_mem)))))); (iterate 7 exact rfl))
              | (apply es_call (hs := (hlev1 A3 c3 _ (by (repeat (first | exact List.mem_cons_self | apply List.mem_cons_of_mem))) (by (repeat (first | exact List.mem_cons_self | apply List.mem_cons_of_mem))))); (iterate 7 exact rfl); rintro _ _ ⟨AL1, cL1, rfl, rfl, hfL1⟩)
              | (apply es_call (hs := (hlev2 A3 c3 _ (by (repeat (first | exact List.mem_cons_self | apply List.mem_cons_of_mem))) (by (repeat (first | exact List.mem_cons_self | apply List.mem_cons_of_mem))))); (iterate 7 exact rfl); rintro _ _ ⟨AL2, cL2, rfl, rfl, hfL2⟩)
              | (apply es_load; (iterate 5 exact rfl); first | (apply ld_blk hT; exact rfl; exact rfl; (repeat (first | exact List.mem_cons_self | apply List.mem_cons_of_mem)); exact rfl; exact rfl) | (apply ld_all hT; exact rfl; exact rfl; (repeat (first | exact List.mem_cons_self | apply List.mem_cons_of_mem)); exact rfl))
              | (apply es_box; (iterate 5 exact rfl); intro _) | (apply es_alloc hT; (iterate 5 exact rfl); intro _)
              | (apply aw_condT; (iterate 2 exact rfl)) | (apply aw_condF; (iterate 2 exact rfl))
              | (apply es_case; exact rfl; all_goals intro hb; all_goals (fail_if_success (change true = true at hb)); all_goals (fail_if_success (change false = false at hb)); all_goals (try dsimp only at hb); all_goals (try simp only [hb]); all_goals (first | replace hb := of_decide_eq_true hb | replace hb := of_decide_eq_false hb | replace hb := bne_t hb | replace hb := bne_f hb | replace hb := eq_of_beq hb | replace hb := ne_of_beq_false hb | skip); all_goals (try (exfalso; omega)))
              | (apply aw_cond; exact rfl; all_goals intro hb; all_goals (try dsimp only at hb); all_goals (try simp only [hb]); all_goals (first | replace hb := of_decide_eq_true hb | replace hb := of_decide_eq_false hb | replace hb := bne_t hb | replace hb := bne_f hb | replace hb := eq_of_beq hb | replace hb := ne_of_beq_false hb | skip); all_goals (try (exfalso; omega))))
            all_goals first
              | (exfalso; omega)
              | exact loopq_end (k + 1, bk, A3, c3) (by dsimp only; omega) ⟨by dsimp only; omega, hBn, hs1⟩ ⟨rfl, rfl, rfl, trivial⟩ (by (repeat (first | exact dt_end | (apply dt_cons; · (repeat (first | exact sel0 | apply selS))) | apply dt_skip)))
              | skip
        · rw [if_neg hst] at hs2
          have hh : x.how ≠ 0 ∧ x.how ≠ 3 := by simpa [staysB] using hst
          by_cases hv1 : 0 < v1.length
          · obtain ⟨y, hy⟩ : ∃ y, v1[(0 : Int).toNat]? = some y := ⟨v1[0], List.getElem?_eq_getElem hv1⟩
            by_cases hv2 : 0 < v2.length
            · obtain ⟨z, hz⟩ : ∃ z, v2[(0 : Int).toNat]? = some z := ⟨v2[0], List.getElem?_eq_getElem hv2⟩
              have hyz := hcr y (List.mem_of_getElem? hy) z (List.mem_of_getElem? hz)
              repeat' (first
                | (apply es_diffB hT; (iterate 5 exact rfl))
                | apply aw_seq | apply aw_region | apply aw_ret | apply aw_skip | apply aw_exit | apply aw_block | apply es_nil
                | (apply es_pure hT; (iterate 4 exact rfl)) | (apply es_skip; (iterate 3 exact rfl)) | (apply es_skip0; (iterate 2 exact rfl))
                | (apply es_i64 hT; (iterate 4 exact rfl); (iterate 2 (first | omega | (dsimp only; omega))))
                | (apply aw_draw [75] [] hmix; decide +kernel)
                | (apply es_idx hT; (iterate 8 exact rfl); (iterate 2 omega); exact hA)
                | (apply es_load; (iterate 5 exact rfl); exact ld_fld hT rfl rfl (hr0.mono (by simp)) Act15.enc_len (adr_add _ _ _) hx2 (f := 6) (by decide) rfl)
                | (apply es_idx hT; (iterate 8 exact rfl); (iterate 2 omega); first | exact hfL1.some_ (by omega) | exact hfL2.some_ (by omega))
                | (apply es_load; (iterate 5 exact rfl); first | exact ld_fld hT rfl rfl (hfL1.reads (by (repeat (first | exact List.mem_cons_self | apply List.mem_cons_of_mem)))) Lvl.enc_len (adr_add _ _ _) hy (by decide) rfl | exact ld_fld hT rfl rfl (hfL2.reads (by (repeat (first | exact List.mem_cons_self | apply List.mem_cons_of_mem)))) Lvl.enc_len (adr_add _ _ _) hz (by decide) rfl)
                | (apply es_callQ (hs := ((hal3 A3 c3).mono (memPairB (by (repeat (first | exact List.mem_cons_self | apply List.mem_cons_of_mem))) (by (repeat (first | exact List.mem_cons_self | apply List.mem_cons_of_mem)))))); (iterate 7 exact rfl))
                | (apply es_call (hs := (hlev1 A3 c3 _ (by (repeat (first | exact List.mem_cons_self | apply List.mem_cons_of_mem))) (by (repeat (first | exact List.mem_cons_self | apply List.mem_cons_of_mem))))); (iterate 7 exact rfl); rintro _ _ ⟨AL1, cL1, rfl, rfl, hfL1⟩)
                | (apply es_call (hs := (hlev2 A3 c3 _ (by (repeat (first | exact List.mem_cons_self | apply List.mem_cons_of_mem))) (by (repeat (first | exact List.mem_cons_self | apply List.mem_cons_of_mem))))); (iterate 7 exact rfl); rintro _ _ ⟨AL2, cL2, rfl, rfl, hfL2⟩)
                | (apply es_load; (iterate 5 exact rfl); first | (apply ld_blk hT; exact rfl; exact rfl; (repeat (first | exact List.mem_cons_self | apply List.mem_cons_of_mem)); exact rfl; exact rfl) | (apply ld_all hT; exact rfl; exact rfl; (repeat (first | exact List.mem_cons_self | apply List.mem_cons_of_mem)); exact rfl))
                | (apply es_box; (iterate 5 exact rfl); intro _) | (apply es_alloc hT; (iterate 5 exact rfl); intro _)
                | (apply aw_condT; (iterate 2 exact rfl)) | (apply aw_condF; (iterate 2 exact rfl))
                | (apply es_case; exact rfl; all_goals intro hb; all_goals (fail_if_success (change true = true at hb)); all_goals (fail_if_success (change false = false at hb)); all_goals (try dsimp only at hb); all_goals (try simp only [hb]); all_goals (first | replace hb := of_decide_eq_true hb | replace hb := of_decide_eq_false hb | replace hb := bne_t hb | replace hb := bne_f hb | replace hb := eq_of_beq hb | replace hb := ne_of_beq_false hb | skip); all_goals (try (exfalso; omega)))
                | (apply aw_cond; exact rfl; all_goals intro hb; all_goals (try dsimp only at hb); all_goals (try simp only [hb]); all_goals (first | replace hb := of_decide_eq_true hb | replace hb := of_decide_eq_false hb | replace hb := bne_t hb | replace hb := bne_f hb | replace hb := eq_of_beq hb | replace hb := ne_of_beq_false hb | skip); all_goals (try (exfalso; omega))))
              all_goals first
                | (exfalso; omega)
                | exact loopq_end (k + 1, bk, A3, c3) (by dsimp only; omega) ⟨by dsimp only; omega, hBn, hs1⟩ ⟨rfl, rfl, rfl, trivial⟩ (by (repeat (first | exact dt_end | (apply dt_cons; · (repeat (first | exact sel0 | apply selS))) | apply dt_skip)))
                | skip
            · skip
              repeat' (first
                | (apply es_diffB hT; (iterate 5 exact rfl))
                | apply aw_seq | apply aw_region | apply aw_ret | apply aw_skip | apply aw_exit | apply aw_block | apply es_nil
                | (apply es_pure hT; (iterate 4 exact rfl)) | (apply es_skip; (iterate 3 exact rfl)) | (apply es_skip0; (iterate 2 exact rfl))
                | (apply es_i64 hT; (iterate 4 exact rfl); (iterate 2 (first | omega | (dsimp only; omega))))
                | (apply aw_draw [75] [] hmix; decide +kernel)
                | (apply es_idx hT; (iterate 8 exact rfl); (iterate 2 omega); exact hA)
                | (apply es_load; (iterate 5 exact rfl); exact ld_fld hT rfl rfl (hr0.mono (by simp)) Act15.enc_len (adr_add _ _ _) hx2 (f := 6) (by decide) rfl)
                | (apply es_callQ (hs := ((hal3 A3 c3).mono (memPairB (by (repeat (first | exact List.mem_cons_self | apply List.mem_cons_of_mem))) (by (repeat (first | exact List.mem_cons_self | apply List.mem_cons_of_mem)))))); (iterate 7 exact rfl))
                | (apply es_call (hs := (hlev1 A3 c3 _ (by (repeat (first | exact List.mem_cons_self | apply List.mem_cons_of_mem))) (by (repeat (first | exact List.mem_cons_self | apply List.mem_cons_of_mem))))); (iterate 7 exact rfl); rintro _ _ ⟨AL1, cL1, rfl, rfl, hfL1⟩)
                | (apply es_call (hs := (hlev2 A3 c3 _ (by (repeat (first | exact List.mem_cons_self | apply List.mem_cons_of_mem))) (by (repeat (first | exact List.mem_cons_self | apply List.mem_cons_of_mem))))); (iterate 7 exact rfl); rintro _ _ ⟨AL2, cL2, rfl, rfl, hfL2⟩)
                | (apply es_load; (iterate 5 exact rfl); first | (apply ld_blk hT; exact rfl; exact rfl; (repeat (first | exact List.mem_cons_self | apply List.mem_cons_of_mem)); exact rfl; exact rfl) | (apply ld_all hT; exact rfl; exact rfl; (repeat (first | exact List.mem_cons_self | apply List.mem_cons_of_mem)); exact rfl))
                | (apply es_box; (iterate 5 exact rfl); intro _) | (apply es_alloc hT; (iterate 5 exact rfl); intro _)
                | (apply aw_condT; (iterate 2 exact rfl)) | (apply aw_condF; (iterate 2 exact rfl))
                | (apply es_case; exact rfl; all_goals intro hb; all_goals (fail_if_success (change true = true at hb)); all_goals (fail_if_success (change false = false at hb)); all_goals (try dsimp only at hb); all_goals (try simp only [hb]); all_goals (first | replace hb := of_decide_eq_true hb | replace hb := of_decide_eq_false hb | replace hb := bne_t hb | replace hb := bne_f hb | replace hb := eq_of_beq hb | replace hb := ne_of_beq_false hb | skip); all_goals (try (exfalso; omega)))
                | (apply aw_cond; exact rfl; all_goals intro hb; all_goals (try dsimp only at hb); all_goals (try simp only [hb]); all_goals (first | replace hb := of_decide_eq_true hb | replace hb := of_decide_eq_false hb | replace hb := bne_t hb | replace hb := bne_f hb | replace hb := eq_of_beq hb | replace hb := ne_of_beq_false hb | skip); all_goals (try (exfalso; omega))))
              all_goals first
                | (exfalso; omega)
                | exact loopq_end (k + 1, bk, A3, c3) (by dsimp only; omega) ⟨by dsimp only; omega, hBn, hs1⟩ ⟨rfl, rfl, rfl, trivial⟩ (by (repeat (first | exact dt_end | (apply dt_cons; · (repeat (first | exact sel0 | apply selS))) | apply dt_skip)))
                | skip
          · skip
            repeat' (first
              | (apply es_diffB hT; (iterate 5 exact rfl))
              | apply aw_seq | apply aw_region | apply aw_ret | apply aw_skip | apply aw_exit | apply aw_block | apply es_nil
              | (apply es_pure hT; (iterate 4 exact rfl)) | (apply es_skip; (iterate 3 exact rfl)) | (apply es_skip0; (iterate 2 exact rfl))
              | (apply es_i64 hT; (iterate 4 exact rfl); (iterate 2 (first | omega | (dsimp only; omega))))
              | (apply aw_draw [75] [] hmix; decide +kernel)
              | (apply es_idx hT; (iterate 8 exact rfl); (iterate 2 omega); exact hA)
              | (apply es_load; (iterate 5 exact rfl); exact ld_fld hT rfl rfl (hr0.mono (by simp)) Act15.enc_len (adr_add _ _ _) hx2 (f := 6) (by decide) rfl)
              | (apply es_callQ (hs := ((hal3 A3 c3).mono (memPairB (by (repeat (first | exact List.mem_cons_self | apply List.mem_cons_of_mem))) (by (repeat (first | exact List.mem_cons_self | apply List.mem_cons_of_mem)))))); (iterate 7 exact rfl))
              | (apply es_call (hs := (hlev1 A3 c3 _ (by (repeat (first | exact List.mem_cons_self | apply List.mem_cons_of_mem))) (by (repeat (first | exact List.mem_cons_self | apply List.mem_cons_of_mem))))); (iterate 7 exact rfl); rintro _ _ ⟨AL1, cL1, rfl, rfl, hfL1⟩)
              | (apply es_call (hs := (hlev2 A3 c3 _ (by (repeat (first | exact List.mem_cons_self | apply List.mem_cons_of_mem))) (by (repeat (first | exact List.mem_cons_self | apply List.mem_cons_of_mem))))); (iterate 7 exact rfl); rintro _ _ ⟨AL2, cL2, rfl, rfl, hfL2⟩)
              | (apply es_load; (iterate 5 exact rfl); first | (apply ld_blk hT; exact rfl; exact rfl; (repeat (first | exact List.mem_cons_self | apply List.mem_cons_of_mem)); exact rfl; exact rfl) | (apply ld_all hT; exact rfl; exact rfl; (repeat (first | exact List.mem_cons_self | apply List.mem_cons_of_mem)); exact rfl))
              | (apply es_box; (iterate 5 exact rfl); intro _) | (apply es_alloc hT; (iterate 5 exact rfl); intro _)
              | (apply aw_condT; (iterate 2 exact rfl)) | (apply aw_condF; (iterate 2 exact rfl))
              | (apply es_case; exact rfl; all_goals intro hb; all_goals (fail_if_success (change true = true at hb)); all_goals (fail_if_success (change false = false at hb)); all_goals (try dsimp only at hb); all_goals (try simp only [hb]); all_goals (first | replace hb := of_decide_eq_true hb | replace hb := of_decide_eq_false hb | replace hb := bne_t hb | replace hb := bne_f hb | replace hb := eq_of_beq hb | replace hb := ne_of_beq_false hb | skip); all_goals (try (exfalso; omega)))
              | (apply aw_cond; exact rfl; all_goals intro hb; all_goals (try dsimp only at hb); all_goals (try simp only [hb]); all_goals (first | replace hb := of_decide_eq_true hb | replace hb := of_decide_eq_false hb | replace hb := bne_t hb | replace hb := bne_f hb | replace hb := eq_of_beq hb | replace hb := ne_of_beq_false hb | skip); all_goals (try (exfalso; omega))))
            all_goals first
              | (exfalso; omega)
              | exact loopq_end (k + 1, bk, A3, c3) (by dsimp only; omega) ⟨by dsimp only; omega, hBn, hs1⟩ ⟨rfl, rfl, rfl, trivial⟩ (by (repeat (first | exact dt_end | (apply dt_cons; · (repeat (first | exact sel0 | apply selS))) | apply dt_skip)))
              | skip
  · obtain rfl : k = ls.length := by omega
    have hd1 : decide ((ls.length : Int) < (ls.length : Int)) = false := by simp
    have hkn := cross_known W
    repeat' (first
      | apply aw_seq | apply aw_region | apply aw_ret | apply aw_skip | apply aw_exit | apply aw_block | apply es_nil
      | (apply es_pure hT; (iterate 4 exact rfl)) | (apply es_skip; (iterate 3 exact rfl)) | (apply es_skip0; (iterate 2 exact rfl))
      | (apply es_i64 hT; (iterate 4 exact rfl); (iterate 2 (first | omega | (dsimp only; omega))))
      | (apply aw_draw [] [] hmix; decide +kernel)
      | (apply es_callQ (hs := (hkn.mono (by simp))); (iterate 7 exact rfl))
      | (apply es_load; (iterate 5 exact rfl); first | (apply ld_blk hT; exact rfl; exact rfl; (repeat (first | exact List.mem_cons_self | apply List.mem_cons_of_mem)); exact rfl; exact rfl) | (apply ld_all hT; exact rfl; exact rfl; (repeat (first | exact List.mem_cons_self | apply List.mem_cons_of_mem)); exact rfl))
      | (apply es_box; (iterate 5 exact rfl); intro _) | (apply es_alloc hT; (iterate 5 exact rfl); intro _)
      | (apply aw_condT; (iterate 2 exact rfl)) | (apply aw_condF; (iterate 2 exact rfl))
      | (apply es_case; exact rfl; all_goals intro hb; all_goals (fail_if_success (change true = true at hb)); all_goals (fail_if_success (change false = false at hb)); all_goals (try dsimp only at hb); all_goals (try simp only [hb]); all_goals (first | replace hb := of_decide_eq_true hb | replace hb := of_decide_eq_false hb | replace hb := bne_t hb | replace hb := bne_f hb | replace hb := eq_of_beq hb | replace hb := ne_of_beq_false hb | skip); all_goals (try (exfalso; omega)))
      | (apply aw_cond; exact rfl; all_goals intro hb; all_goals (try dsimp only at hb); all_goals (try simp only [hb]); all_goals (first | replace hb := of_decide_eq_true hb | replace hb := of_decide_eq_false hb | replace hb := bne_t hb | replace hb := bne_f hb | replace hb := eq_of_beq hb | replace hb := ne_of_beq_false hb | skip); all_goals (try (exfalso; omega))))
    all_goals first
      | (exfalso; omega)
      | (apply ret1; exact rfl; exact rfl)
      | (exfalso; simp_all; done)
end Go.Proofs.Ytiefkpfamkkapaa
