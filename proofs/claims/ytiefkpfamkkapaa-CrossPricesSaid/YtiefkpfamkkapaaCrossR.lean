/- What the statement CrossPrices answers. Conditions stand in each statement. -/
import Derived.Test.YtiefkpfamkkapaaCrossV
set_option linter.unusedSimpArgs false
set_option linter.unusedVariables false
namespace Go.Proofs.Ytiefkpfamkkapaa
open Go Go.Sl
attribute [local irreducible] AW ES EP Ld RetQ
set_option maxRecDepth 100000

/-- each fill is of one that was met; the better ones ahead -/
theorem fills_law {how : Int} {o : Order} {l : List Order} (hB : BookB l) (h0 : wrongV how o l = 0) : ∃ xs : List Order, xs.length = (doV how o l).fills.length ∧
    (∀ (i : Nat) f x, (doV how o l).fills[i]? = some f → xs[i]? = some x → f.maker = x.id ∧ f.mparty = x.owner ∧ f.price = x.price ∧ getO x.id l = some x ∧ x.side = otherB o.side ∧ takesB how o x = true) ∧
    (∀ (i : Nat) f x y, (doV how o l).fills[i]? = some f → xs[i]? = some x → xs[i + 1]? = some y → f.left = 0 ∧ aheadS (otherB o.side) x y = true) := by
  obtain ⟨hw, e1, _, _⟩ := doV_way hB h0
  obtain ⟨xs, h1, h2, h3⟩ := hw.mks
  have hsd := newB_side (wrong_new' h0)
  have ho : isB (otherB o.side) = true := by rcases isB_two hsd with h | h <;> simp [otherB, isB, h]
  have hup : xs.Pairwise (fun a b => aheadS (otherB o.side) a b = true) := ((sideO_up ho hB.seq).sublist (List.takeWhile_sublist _)).sublist h1
  rw [e1]
  refine ⟨xs, h2, fun i f x hf hx => ?_, fun i f x y hf hx hy => ?_⟩
  · have k := (h3 i f x hf hx).1
    have hm := h1.subset (List.mem_of_getElem? hx)
    have hml := meets_mem hm
    exact ⟨k.maker, k.mparty, k.price, getO_mem hB.id hml.1, hml.2, take_while_all (p := takesB how o) (l := sideO (otherB o.side) l) x (by rw [← List.prefix_iff_eq_take.1 (List.takeWhile_prefix (takesB how o))]; exact hm)⟩
  · have k := (h3 i f x hf hx).2
    obtain ⟨hi, hie⟩ := List.getElem?_eq_some_iff.1 hx
    obtain ⟨hj, hje⟩ := List.getElem?_eq_some_iff.1 hy
    refine ⟨?_, ?_⟩
    · rcases Int.lt_trichotomy f.left 0 with h | h | h
      · have := (k (by omega)).2; omega
      · exact h
      · have := (k (by omega)).2; omega
    · have := List.pairwise_iff_getElem.1 hup i (i + 1) hi hj (by omega)
      rw [hie, hje] at this; exact this
theorem ahead_facts {s : Int} {x y : Order} (h : aheadS s x y = true) : betterB s y.price x.price = false ∧ ¬ (y.price = x.price ∧ y.seq < x.seq) := by
  unfold aheadS at h
  split at h
  · rename_i he
    have hs : x.seq < y.seq := by simpa using h
    exact ⟨by simp [betterB, he], fun hh => by omega⟩
  · rename_i hne
    refine ⟨?_, fun hh => hne hh.1.symm⟩
    cases hb : betterB s y.price x.price
    · rfl
    · have := betterB_tr h hb
      simp [betterB] at this
set_option maxHeartbeats 4000000 in
theorem cross_Prices (W : World) (A0 : Option Addr) (c0 : Nat) (ls : List Order) (o : Order) (how : Int) (hr0 : Reads W [] A0 ls.length 6 (ls.flatMap Order.enc)) :
    FSpec Try.prog W 18 [.slice A0 ls.length c0, .agg o.enc.toArray, .int .i64 how] [] (fun v _ => v = .bool true) := by
  refine spec_body Try.func18 rfl rfl Try.results18 Try.ntmps18 rfl rfl ?_
  by_cases h1 : ls.length > 60 ∨ how < 0 ∨ how > 4
  · repeat' (first
      | apply aw_seq | apply aw_region | apply aw_ret | apply aw_skip | apply aw_exit | apply aw_block | apply es_nil
      | (apply es_pure hT; (iterate 4 exact rfl)) | (apply es_skip; (iterate 3 exact rfl)) | (apply es_skip0; (iterate 2 exact rfl))
      | (apply es_i64 hT; (iterate 4 exact rfl); (iterate 2 (first | omega | (dsimp only; omega))))
      | (apply aw_draw [] [] hmix; decide +kernel)
      | (apply es_box; (iterate 5 exact rfl); intro g4)
      | (apply es_load; (iterate 5 exact rfl); first | (apply ld_blk hT; exact rfl; exact rfl; (repeat (first | exact List.mem_cons_self | apply List.mem_cons_of_mem)); exact rfl; exact rfl) | (apply ld_all hT; exact rfl; exact rfl; (repeat (first | exact List.mem_cons_self | apply List.mem_cons_of_mem)); exact rfl))
      | (apply es_box; (iterate 5 exact rfl); intro _) | (apply es_alloc hT; (iterate 5 exact rfl); intro _)
      | (apply aw_condT; (iterate 2 exact rfl)) | (apply aw_condF; (iterate 2 exact rfl))
      | (apply es_case; exact rfl; all_goals intro hb; all_goals (fail_if_success (change true = true at hb)); all_goals (fail_if_success (change false = false at hb)); all_goals (try dsimp only at hb); all_goals (try simp only [hb]); all_goals (first | replace hb := of_decide_eq_true hb | replace hb := of_decide_eq_false hb | replace hb := bne_t hb | replace hb := bne_f hb | replace hb := eq_of_beq hb | replace hb := ne_of_beq_false hb | skip); all_goals (try (exfalso; omega)))
      | (apply aw_cond; exact rfl; all_goals intro hb; all_goals (try dsimp only at hb); all_goals (try simp only [hb]); all_goals (first | replace hb := of_decide_eq_true hb | replace hb := of_decide_eq_false hb | replace hb := bne_t hb | replace hb := bne_f hb | replace hb := eq_of_beq hb | replace hb := ne_of_beq_false hb | skip); all_goals (try (exfalso; omega))))
    all_goals first
      | (exfalso; omega)
      | (apply ret1; exact rfl; exact rfl)
  have hboth := fun g4 => both15 W [.blk g4 29 o.enc] A0 c0 ls (hr0.mono (by simp)) (by omega)
  have hB := bookOf_B ls
  generalize bookOf ls = l at hboth hB
  have hkn := cross_known W
  have hdo := fun p A c F => cross_Do W F p A c l o how hB
  have hln := (doV_lens' (how := how) (o := o) hB).1
  by_cases hw0 : wrongV how o l = 0
  rotate_left
  · have hd := doV_bad hw0
    have he : (doV how o l).err = wrongV how o l := by rw [hd]
    have hf : (doV how o l).fills.length = 0 := by rw [hd]; rfl
    rw [he] at hdo
    generalize (doV how o l).fills = fl at hdo hf
    generalize wrongV how o l = er at hdo hw0
    repeat' (first
      | apply aw_seq | apply aw_region | apply aw_ret | apply aw_skip | apply aw_exit | apply aw_block | apply es_nil
      | (apply es_pure hT; (iterate 4 exact rfl)) | (apply es_skip; (iterate 3 exact rfl)) | (apply es_skip0; (iterate 2 exact rfl))
      | (apply es_i64 hT; (iterate 4 exact rfl); (iterate 2 (first | omega | (dsimp only; omega))))
      | (apply aw_draw [] [] hmix; decide +kernel)
      | (apply es_box; (iterate 5 exact rfl); intro g4)
      | (apply es_call (hs := (hboth _)); (iterate 7 exact rfl); rintro _ _ ⟨p, A, c, q, A', c', rfl, rfl⟩)
      | (apply es_call (hs := (hdo p A c _)); (iterate 7 exact rfl); rintro _ _ ⟨Af, cf, Ag, cg, A3, c3, rfl, rfl, hfF, hfG⟩)
      | (apply es_callQ (hs := (hkn.mono (by simp))); (iterate 7 exact rfl))
      | (apply es_load; (iterate 5 exact rfl); first | (apply ld_blk hT; exact rfl; exact rfl; (repeat (first | exact List.mem_cons_self | apply List.mem_cons_of_mem)); exact rfl; exact rfl) | (apply ld_all hT; exact rfl; exact rfl; (repeat (first | exact List.mem_cons_self | apply List.mem_cons_of_mem)); exact rfl))
      | (apply es_box; (iterate 5 exact rfl); intro _) | (apply es_alloc hT; (iterate 5 exact rfl); intro _)
      | (apply aw_condT; (iterate 2 exact rfl)) | (apply aw_condF; (iterate 2 exact rfl))
      | (apply es_case; exact rfl; all_goals intro hb; all_goals (fail_if_success (change true = true at hb)); all_goals (fail_if_success (change false = false at hb)); all_goals (try dsimp only at hb); all_goals (try simp only [hb]); all_goals (first | replace hb := of_decide_eq_true hb | replace hb := of_decide_eq_false hb | replace hb := bne_t hb | replace hb := bne_f hb | replace hb := eq_of_beq hb | replace hb := ne_of_beq_false hb | skip); all_goals (try (exfalso; omega)))
      | (apply aw_cond; exact rfl; all_goals intro hb; all_goals (try dsimp only at hb); all_goals (try simp only [hb]); all_goals (first | replace hb := of_decide_eq_true hb | replace hb := of_decide_eq_false hb | replace hb := bne_t hb | replace hb := bne_f hb | replace hb := eq_of_beq hb | replace hb := ne_of_beq_false hb | skip); all_goals (try (exfalso; omega))))
    all_goals try (exfalso; omega)
    all_goals first
      | (apply ret1; exact rfl; exact rfl)
      | (exfalso; simp_all; done)
      | skip
  have hsd := newB_side (wrong_new' hw0)
  obtain ⟨xs, hxl, hx1, hx2⟩ := fills_law hB hw0
  have he : (doV how o l).err = 0 := (doV_way hB hw0).2.2.2
  rw [he] at hdo
  generalize (doV how o l).fills = fl at hdo hln hxl hx1 hx2
  generalize (doV how o l).gones = go at hdo
  generalize (doV how o l).bk = bk at hdo
  generalize (doV how o l).left = lf at hdo
  repeat' (first
    | apply aw_seq | apply aw_region | apply aw_ret | apply aw_skip | apply aw_exit | apply aw_block | apply es_nil
    | (apply es_pure hT; (iterate 4 exact rfl)) | (apply es_skip; (iterate 3 exact rfl)) | (apply es_skip0; (iterate 2 exact rfl))
    | (apply es_i64 hT; (iterate 4 exact rfl); (iterate 2 (first | omega | (dsimp only; omega))))
    | (apply aw_draw [] [] hmix; decide +kernel)
    | (apply es_box; (iterate 5 exact rfl); intro g4)
    | (apply es_call (hs := (hboth _)); (iterate 7 exact rfl); rintro _ _ ⟨p, A, c, q, A', c', rfl, rfl⟩)
    | (apply es_call (hs := (hdo p A c _)); (iterate 7 exact rfl); rintro _ _ ⟨Af, cf, Ag, cg, A3, c3, rfl, rfl, hfF, hfG⟩)
    | (apply es_load; (iterate 5 exact rfl); first | (apply ld_blk hT; exact rfl; exact rfl; (repeat (first | exact List.mem_cons_self | apply List.mem_cons_of_mem)); exact rfl; exact rfl) | (apply ld_all hT; exact rfl; exact rfl; (repeat (first | exact List.mem_cons_self | apply List.mem_cons_of_mem)); exact rfl))
    | (apply es_box; (iterate 5 exact rfl); intro _) | (apply es_alloc hT; (iterate 5 exact rfl); intro _)
    | (apply aw_condT; (iterate 2 exact rfl)) | (apply aw_condF; (iterate 2 exact rfl))
    | (apply es_case; exact rfl; all_goals intro hb; all_goals (fail_if_success (change true = true at hb)); all_goals (fail_if_success (change false = false at hb)); all_goals (try dsimp only at hb); all_goals (try simp only [hb]); all_goals (first | replace hb := of_decide_eq_true hb | replace hb := of_decide_eq_false hb | replace hb := bne_t hb | replace hb := bne_f hb | replace hb := eq_of_beq hb | replace hb := ne_of_beq_false hb | skip); all_goals (try (exfalso; omega)))
    | (apply aw_cond; exact rfl; all_goals intro hb; all_goals (try dsimp only at hb); all_goals (try simp only [hb]); all_goals (first | replace hb := of_decide_eq_true hb | replace hb := of_decide_eq_false hb | replace hb := bne_t hb | replace hb := bne_f hb | replace hb := eq_of_beq hb | replace hb := ne_of_beq_false hb | skip); all_goals (try (exfalso; omega))))
  all_goals try (exfalso; omega)
  all_goals try (exfalso; simp at *; done)
  refine aw_loopD (α := Nat) (E := fun k => [(2, .int .i64 how), (4, .pointer (some ⟨g4, 0, none⟩)), (8, .pointer (some ⟨q, 0, none⟩)), (9, .slice Af fl.length cf), (13, .int .i64 k)])
    (H := fun _ => .own Af fl.length cf 95 7 (fl.flatMap FillR.enc) :: refB q A' c' l [.blk g4 29 o.enc]) (μ := fun k => fl.length - k)
    (S := fun k => k ≤ fl.length) 0 (Nat.zero_le _) ⟨rfl, rfl, rfl, rfl, rfl, trivial⟩ (by (repeat (first | exact dt_end | (apply dt_cons; · (repeat (first | exact sel0 | apply selS))) | apply dt_skip))) ?_
  intro k hk
  by_cases hlt : k < fl.length
  · obtain ⟨f, hf⟩ : ∃ f, fl[k]? = some f := ⟨fl[k]'(by omega), List.getElem?_eq_getElem (by omega)⟩
    obtain ⟨x, hx⟩ : ∃ x, xs[k]? = some x := ⟨xs[k]'(by omega), List.getElem?_eq_getElem (by omega)⟩
    have hf2 : fl[(k : Int).toNat]? = some f := by simpa using hf
    have hA := hfF.some_ (by omega)
    have hd1 : decide ((k : Int) < (fl.length : Int)) = true := by simp; omega
    obtain ⟨k1, k2, k3, k4, k5, k6⟩ := hx1 k f x hf hx
    have hG := (ref14_Get W q A' c' l f.maker hB.le).cast (u := .tuple #[.agg x.enc.toArray, .bool true]) (by rw [k1, k4]; rfl)
    have hne : x.side ≠ o.side := by rw [k5]; rcases isB_two hsd with h | h <;> simp [otherB, isB, h]
    have hTk : how ≠ 4 → QSpec Try.prog W 72 [.int .i64 o.side, .int .i64 o.price, .int .i64 x.price] [] (.bool true) := fun h4 => (ref2_Takes W o.side o.price x.price).cast (by
      have : (isB o.side && !betterB o.side x.price o.price) = true := by
        unfold takesB at k6
        rw [show (how == 4) = false by simpa using h4, Bool.false_or] at k6; exact k6
      rw [this])
    have hrd : ∀ h, Chunk.own Af fl.length cf 95 7 (fl.flatMap FillR.enc) ∈ h → Reads W h Af fl.length 7 (fl.flatMap FillR.enc) := fun h m => hfF.reads m
    cases k with
    | zero =>
      have hz : (((0 : Nat) : Int) == 0) = true := by decide
      repeat' (first
        | apply aw_seq | apply aw_region | apply aw_ret | apply aw_skip | apply aw_exit | apply aw_block | apply es_nil
        | (apply es_pure hT; (iterate 4 exact rfl)) | (apply es_skip; (iterate 3 exact rfl)) | (apply es_skip0; (iterate 2 exact rfl))
        | (apply es_i64 hT; (iterate 4 exact rfl); (iterate 2 (first | omega | (dsimp only; omega))))
        | (apply aw_draw [72] [] hmix; decide +kernel)
        | (apply es_idx hT; (iterate 8 exact rfl); (iterate 2 omega); exact hA)
        | (apply es_load; (iterate 5 exact rfl); exact ld_fld hT rfl rfl (hrd _ (by (repeat (first | exact List.mem_cons_self | apply List.mem_cons_of_mem)))) FillR.enc_len (adr_add _ _ _) hf2 (by decide) rfl)
        | (apply es_callQ (hs := (hG.mono (memPairB (by (repeat (first | exact List.mem_cons_self | apply List.mem_cons_of_mem))) (by (repeat (first | exact List.mem_cons_self | apply List.mem_cons_of_mem)))))); (iterate 7 exact rfl))
        | (apply es_alloc hT; (iterate 5 exact rfl); first | ((fail_if_success (have q := g14)); intro g14) | intro _)
        | (apply es_callQ (hs := ((hTk (by omega)).mono (by simp))); (iterate 7 exact rfl))
        | (apply es_store hT; (iterate 6 exact rfl); (repeat (first | exact sel0 | apply selS)); (iterate 3 exact rfl); exact Nat.le_of_ble_eq_true rfl)
        | (apply es_load; (iterate 5 exact rfl); first | (apply ld_blk hT; exact rfl; exact rfl; (repeat (first | exact List.mem_cons_self | apply List.mem_cons_of_mem)); exact rfl; exact rfl) | (apply ld_all hT; exact rfl; exact rfl; (repeat (first | exact List.mem_cons_self | apply List.mem_cons_of_mem)); exact rfl))
        | (apply es_box; (iterate 5 exact rfl); intro _) | (apply es_alloc hT; (iterate 5 exact rfl); intro _)
        | (apply aw_condT; (iterate 2 exact rfl)) | (apply aw_condF; (iterate 2 exact rfl))
        | (apply es_case; exact rfl; all_goals intro hb; all_goals (fail_if_success (change true = true at hb)); all_goals (fail_if_success (change false = false at hb)); all_goals (try dsimp only at hb); all_goals (try simp only [hb]); all_goals (first | replace hb := of_decide_eq_true hb | replace hb := of_decide_eq_false hb | replace hb := bne_t hb | replace hb := bne_f hb | replace hb := eq_of_beq hb | replace hb := ne_of_beq_false hb | skip); all_goals (try (exfalso; omega)))
        | (apply aw_cond; exact rfl; all_goals intro hb; all_goals (try dsimp only at hb); all_goals (try simp only [hb]); all_goals (first | replace hb := of_decide_eq_true hb | replace hb := of_decide_eq_false hb | replace hb := bne_t hb | replace hb := bne_f hb | replace hb := eq_of_beq hb | replace hb := ne_of_beq_false hb | skip); all_goals (try (exfalso; omega))))
      all_goals first
        | (exfalso; omega)
        | exact loopq_end 1 (by (try dsimp only); omega) (by (try dsimp only); omega) ⟨rfl, rfl, rfl, rfl, rfl, trivial⟩ (by (repeat (first | exact dt_end | (apply dt_cons; · (repeat (first | exact sel0 | apply selS))) | apply dt_skip)))
        | (show (if (1 : Nat) = 1 then LoopQ _ _ _ _ _ _ .normal _ _ else _); rw [if_pos rfl]; exact loopq_end 1 (by (try dsimp only); omega) (by (try dsimp only); omega) ⟨rfl, rfl, rfl, rfl, rfl, trivial⟩ (by (repeat (first | exact dt_end | (apply dt_cons; · (repeat (first | exact sel0 | apply selS))) | apply dt_skip))))
        | skip
    | succ j =>
      obtain ⟨f', hf'⟩ : ∃ f, fl[j]? = some f := ⟨fl[j]'(by omega), List.getElem?_eq_getElem (by omega)⟩
      obtain ⟨x', hx'⟩ : ∃ x, xs[j]? = some x := ⟨xs[j]'(by omega), List.getElem?_eq_getElem (by omega)⟩
      have hf3 : fl[(((j + 1 : Nat) : Int) - 1).toNat]? = some f' := by rw [show (((j + 1 : Nat) : Int) - 1).toNat = j by omega]; exact hf'
      obtain ⟨j1, j2, j3, j4, j5, j6⟩ := hx1 j f' x' hf' hx'
      have hG' := (ref14_Get W q A' c' l f'.maker hB.le).cast (u := .tuple #[.agg x'.enc.toArray, .bool true]) (by rw [j1, j4]; rfl)
      obtain ⟨a1, a2⟩ := hx2 j f' x' x hf' hx' hx
      obtain ⟨b1, b2⟩ := ahead_facts a2
      have hBt := (ref2_Better W x.side x.price x'.price).cast (by rw [k5, b1])
      have hz : (((j + 1 : Nat) : Int) == 0) = false := beq_eq_false_iff_ne.2 (by omega)
      repeat' (first
        | apply aw_seq | apply aw_region | apply aw_ret | apply aw_skip | apply aw_exit | apply aw_block | apply es_nil
        | (apply es_pure hT; (iterate 4 exact rfl)) | (apply es_skip; (iterate 3 exact rfl)) | (apply es_skip0; (iterate 2 exact rfl))
        | (apply es_i64 hT; (iterate 4 exact rfl); (iterate 2 (first | omega | (dsimp only; omega))))
        | (apply aw_draw [72] [] hmix; decide +kernel)
        | (apply es_idx hT; (iterate 8 exact rfl); (iterate 2 omega); exact hA)
        | (apply es_load; (iterate 5 exact rfl); first | exact ld_fld hT rfl rfl (hrd _ (by (repeat (first | exact List.mem_cons_self | apply List.mem_cons_of_mem)))) FillR.enc_len (adr_add _ _ _) hf2 (by decide) rfl | exact ld_fld hT rfl rfl (hrd _ (by (repeat (first | exact List.mem_cons_self | apply List.mem_cons_of_mem)))) FillR.enc_len (adr_add _ _ _) hf3 (by decide) rfl)
        | (apply es_callQ (hs := (hG.mono (memPairB (by (repeat (first | exact List.mem_cons_self | apply List.mem_cons_of_mem))) (by (repeat (first | exact List.mem_cons_self | apply List.mem_cons_of_mem)))))); (iterate 7 exact rfl))
        | (apply es_callQ (hs := (hG'.mono (memPairB (by (repeat (first | exact List.mem_cons_self | apply List.mem_cons_of_mem))) (by (repeat (first | exact List.mem_cons_self | apply List.mem_cons_of_mem)))))); (iterate 7 exact rfl))
        | (apply es_alloc hT; (iterate 5 exact rfl); first | ((fail_if_success (have q := g14)); intro g14) | intro _)
        | (apply es_callQ (hs := ((hTk (by omega)).mono (by simp))); (iterate 7 exact rfl))
        | (apply es_callQ (hs := (hBt.mono (by simp))); (iterate 7 exact rfl))
        | (apply es_store hT; (iterate 6 exact rfl); (repeat (first | exact sel0 | apply selS)); (iterate 3 exact rfl); exact Nat.le_of_ble_eq_true rfl)
        | (apply es_load; (iterate 5 exact rfl); first | (apply ld_blk hT; exact rfl; exact rfl; (repeat (first | exact List.mem_cons_self | apply List.mem_cons_of_mem)); exact rfl; exact rfl) | (apply ld_all hT; exact rfl; exact rfl; (repeat (first | exact List.mem_cons_self | apply List.mem_cons_of_mem)); exact rfl))
        | (apply es_box; (iterate 5 exact rfl); intro _) | (apply es_alloc hT; (iterate 5 exact rfl); intro _)
        | (apply aw_condT; (iterate 2 exact rfl)) | (apply aw_condF; (iterate 2 exact rfl))
        | (apply es_case; exact rfl; all_goals intro hb; all_goals (fail_if_success (change true = true at hb)); all_goals (fail_if_success (change false = false at hb)); all_goals (try dsimp only at hb); all_goals (try simp only [hb]); all_goals (first | replace hb := of_decide_eq_true hb | replace hb := of_decide_eq_false hb | replace hb := bne_t hb | replace hb := bne_f hb | replace hb := eq_of_beq hb | replace hb := ne_of_beq_false hb | skip); all_goals (try (exfalso; omega)))
        | (apply aw_cond; exact rfl; all_goals intro hb; all_goals (try dsimp only at hb); all_goals (try simp only [hb]); all_goals (first | replace hb := of_decide_eq_true hb | replace hb := of_decide_eq_false hb | replace hb := bne_t hb | replace hb := bne_f hb | replace hb := eq_of_beq hb | replace hb := ne_of_beq_false hb | skip); all_goals (try (exfalso; omega))))
      all_goals first
        | (exfalso; omega)
        | exact loopq_end (j + 1 + 1) (by (try dsimp only); omega) (by (try dsimp only); omega) ⟨rfl, rfl, rfl, rfl, rfl, trivial⟩ (by (repeat (first | exact dt_end | (apply dt_cons; · (repeat (first | exact sel0 | apply selS))) | apply dt_skip)))
        | (apply blockq_n; exact loopq_end (j + 1 + 1) (by (try dsimp only); omega) (by (try dsimp only); omega) ⟨rfl, rfl, rfl, rfl, rfl, trivial⟩ (by (repeat (first | exact dt_end | (apply dt_cons; · (repeat (first | exact sel0 | apply selS))) | apply dt_skip))))
        | skip
  · obtain rfl : k = fl.length := by omega
    have hd1 : decide ((fl.length : Int) < (fl.length : Int)) = false := by simp
    repeat' (first
      | apply aw_seq | apply aw_region | apply aw_ret | apply aw_skip | apply aw_exit | apply aw_block | apply es_nil
      | (apply es_pure hT; (iterate 4 exact rfl)) | (apply es_skip; (iterate 3 exact rfl)) | (apply es_skip0; (iterate 2 exact rfl))
      | (apply es_i64 hT; (iterate 4 exact rfl); (iterate 2 (first | omega | (dsimp only; omega))))
      | (apply aw_draw [] [] hmix; decide +kernel)
      | (apply es_callQ (hs := (hkn.mono (by simp))); (iterate 7 exact rfl))
      | (apply es_load; (iterate 5 exact rfl); first | (apply ld_blk hT; exact rfl; exact rfl; (repeat (first | exact List.mem_cons_self | apply List.mem_cons_of_mem)); exact rfl; exact rfl) | (apply ld_all hT; exact rfl; exact rfl; (repeat (first | exact List.mem_cons_self | apply List.mem_cons_of_mem)); exact rfl))
      | (apply es_box; (iterate 5 exact rfl); intro _) | (apply es_alloc hT; (iterate 5 exact rfl); intro _)
      | (apply aw_condT; (iterate 2 exact rfl)) | (apply aw_condF; (iterate 2 exact rfl))
      | (apply es_case; exact rfl; all_goals intro hb; all_goals (fail_if_success (change true = true at hb)); all_goals (fail_if_success (change false = false at hb)); all_goals (try dsimp only at hb); all_goals (try simp only [hb]); all_goals (first | replace hb := of_decide_eq_true hb | replace hb := of_decide_eq_false hb | replace hb := bne_t hb | replace hb := bne_f hb | replace hb := eq_of_beq hb | replace hb := ne_of_beq_false hb | skip); all_goals (try (exfalso; omega)))
      | (apply aw_cond; exact rfl; all_goals intro hb; all_goals (try dsimp only at hb); all_goals (try simp only [hb]); all_goals (first | replace hb := of_decide_eq_true hb | replace hb := of_decide_eq_false hb | replace hb := bne_t hb | replace hb := bne_f hb | replace hb := eq_of_beq hb | replace hb := ne_of_beq_false hb | skip); all_goals (try (exfalso; omega))))
    all_goals first
      | (exfalso; omega)
      | (apply ret1; exact rfl; exact rfl)
      | skip
end Go.Proofs.Ytiefkpfamkkapaa
