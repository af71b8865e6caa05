/- What the statement CrossPosts answers. Conditions stand in each statement. -/
import Derived.Test.YtiefkpfamkkapaaCrossV
set_option linter.unusedSimpArgs false
set_option linter.unusedVariables false
namespace Go.Proofs.Ytiefkpfamkkapaa
open Go Go.Sl
attribute [local irreducible] AW ES EP Ld RetQ
set_option maxRecDepth 100000

set_option maxHeartbeats 4000000 in
theorem cross_Posts (W : World) (A0 : Option Addr) (c0 : Nat) (ls : List Order) (o : Order) (hr0 : Reads W [] A0 ls.length 6 (ls.flatMap Order.enc)) :
    FSpec Try.prog W 22 [.slice A0 ls.length c0, .agg o.enc.toArray] [] (fun v _ => v = .bool true) := by
  refine spec_body Try.func22 rfl rfl Try.results22 Try.ntmps22 rfl rfl ?_
  have hMay := ref14_May W o
  by_cases h1 : ls.length > 40
  · repeat' (first
      | apply aw_seq | apply aw_region | apply aw_ret | apply aw_skip | apply aw_exit | apply aw_block | apply es_nil
      | (apply es_pure hT; (iterate 4 exact rfl)) | (apply es_skip; (iterate 3 exact rfl)) | (apply es_skip0; (iterate 2 exact rfl))
      | (apply es_i64 hT; (iterate 4 exact rfl); (iterate 2 (first | omega | (dsimp only; omega))))
      | (apply aw_draw [] [] hmix; decide +kernel)
      | (apply es_box; (iterate 5 exact rfl); intro g3)
      | (apply es_load; (iterate 5 exact rfl); first | (apply ld_blk hT; exact rfl; exact rfl; (repeat (first | exact List.mem_cons_self | apply List.mem_cons_of_mem)); exact rfl; exact rfl) | (apply ld_all hT; exact rfl; exact rfl; (repeat (first | exact List.mem_cons_self | apply List.mem_cons_of_mem)); exact rfl))
      | (apply es_box; (iterate 5 exact rfl); intro _) | (apply es_alloc hT; (iterate 5 exact rfl); intro _)
      | (apply aw_condT; (iterate 2 exact rfl)) | (apply aw_condF; (iterate 2 exact rfl))
      | (apply es_case; exact rfl; all_goals intro hb; all_goals (fail_if_success (change true = true at hb)); all_goals (fail_if_success (change false = false at hb)); all_goals (try dsimp only at hb); all_goals (try simp only [hb]); all_goals (first | replace hb := of_decide_eq_true hb | replace hb := of_decide_eq_false hb | replace hb := bne_t hb | replace hb := bne_f hb | replace hb := eq_of_beq hb | replace hb := ne_of_beq_false hb | skip); all_goals (try (exfalso; omega)))
      | (apply aw_cond; exact rfl; all_goals intro hb; all_goals (try dsimp only at hb); all_goals (try simp only [hb]); all_goals (first | replace hb := of_decide_eq_true hb | replace hb := of_decide_eq_false hb | replace hb := bne_t hb | replace hb := bne_f hb | replace hb := eq_of_beq hb | replace hb := ne_of_beq_false hb | skip); all_goals (try (exfalso; omega))))
    all_goals first
      | (exfalso; omega)
      | (apply ret1; exact rfl; exact rfl)
  cases hok : okO o
  · rw [hok] at hMay
    repeat' (first
      | apply aw_seq | apply aw_region | apply aw_ret | apply aw_skip | apply aw_exit | apply aw_block | apply es_nil
      | (apply es_pure hT; (iterate 4 exact rfl)) | (apply es_skip; (iterate 3 exact rfl)) | (apply es_skip0; (iterate 2 exact rfl))
      | (apply es_i64 hT; (iterate 4 exact rfl); (iterate 2 (first | omega | (dsimp only; omega))))
      | (apply aw_draw [] [] hmix; decide +kernel)
      | (apply es_box; (iterate 5 exact rfl); intro g3)
      | (apply es_callQ (hs := (hMay.mono (by simp))); (iterate 7 exact rfl))
      | (apply es_load; (iterate 5 exact rfl); first | (apply ld_blk hT; exact rfl; exact rfl; (repeat (first | exact List.mem_cons_self | apply List.mem_cons_of_mem)); exact rfl; exact rfl) | (apply ld_all hT; exact rfl; exact rfl; (repeat (first | exact List.mem_cons_self | apply List.mem_cons_of_mem)); exact rfl))
      | (apply es_box; (iterate 5 exact rfl); intro _) | (apply es_alloc hT; (iterate 5 exact rfl); intro _)
      | (apply aw_condT; (iterate 2 exact rfl)) | (apply aw_condF; (iterate 2 exact rfl))
      | (apply es_case; exact rfl; all_goals intro hb; all_goals (fail_if_success (change true = true at hb)); all_goals (fail_if_success (change false = false at hb)); all_goals (try dsimp only at hb); all_goals (try simp only [hb]); all_goals (first | replace hb := of_decide_eq_true hb | replace hb := of_decide_eq_false hb | replace hb := bne_t hb | replace hb := bne_f hb | replace hb := eq_of_beq hb | replace hb := ne_of_beq_false hb | skip); all_goals (try (exfalso; omega)))
      | (apply aw_cond; exact rfl; all_goals intro hb; all_goals (try dsimp only at hb); all_goals (try simp only [hb]); all_goals (first | replace hb := of_decide_eq_true hb | replace hb := of_decide_eq_false hb | replace hb := bne_t hb | replace hb := bne_f hb | replace hb := eq_of_beq hb | replace hb := ne_of_beq_false hb | skip); all_goals (try (exfalso; omega))))
    all_goals first
      | (exfalso; omega)
      | (apply ret1; exact rfl; exact rfl)
  rw [hok] at hMay
  have hboth := fun g3 => both15 W [.blk g3 29 o.enc] A0 c0 ls (hr0.mono (by simp)) (by omega)
  have hB := bookOf_B ls
  have hlb := (bookOf_sub ls).2
  generalize bookOf ls = l at hboth hB hlb
  have hHas := fun q A' c' => ref14_Has W q A' c' l o.id o.seq hB.le
  have hcs : hasIS o.id o.seq = clashO o := by funext x; rfl
  rw [hcs] at hHas
  have hkn := cross_known W
  rcases Int.lt_or_le (idxOf (clashO o) l) 0 with hcl | hcl
  rotate_left
  · rw [decide_eq_true hcl] at hHas
    repeat' (first
      | apply aw_seq | apply aw_region | apply aw_ret | apply aw_skip | apply aw_exit | apply aw_block | apply es_nil
      | (apply es_pure hT; (iterate 4 exact rfl)) | (apply es_skip; (iterate 3 exact rfl)) | (apply es_skip0; (iterate 2 exact rfl))
      | (apply es_i64 hT; (iterate 4 exact rfl); (iterate 2 (first | omega | (dsimp only; omega))))
      | (apply aw_draw [] [] hmix; decide +kernel)
      | (apply es_box; (iterate 5 exact rfl); intro g3)
      | (apply es_callQ (hs := (hMay.mono (by simp))); (iterate 7 exact rfl))
      | (apply es_call (hs := (hboth _)); (iterate 7 exact rfl); rintro _ _ ⟨p, A, c, q, A', c', rfl, rfl⟩)
      | (apply es_callQ (hs := ((hHas q A' c').mono (memPairB mem2 mem3))); (iterate 7 exact rfl))
      | (apply es_load; (iterate 5 exact rfl); first | (apply ld_blk hT; exact rfl; exact rfl; (repeat (first | exact List.mem_cons_self | apply List.mem_cons_of_mem)); exact rfl; exact rfl) | (apply ld_all hT; exact rfl; exact rfl; (repeat (first | exact List.mem_cons_self | apply List.mem_cons_of_mem)); exact rfl))
      | (apply es_box; (iterate 5 exact rfl); intro _) | (apply es_alloc hT; (iterate 5 exact rfl); intro _)
      | (apply aw_condT; (iterate 2 exact rfl)) | (apply aw_condF; (iterate 2 exact rfl))
      | (apply es_case; exact rfl; all_goals intro hb; all_goals (fail_if_success (change true = true at hb)); all_goals (fail_if_success (change false = false at hb)); all_goals (try dsimp only at hb); all_goals (try simp only [hb]); all_goals (first | replace hb := of_decide_eq_true hb | replace hb := of_decide_eq_false hb | replace hb := bne_t hb | replace hb := bne_f hb | replace hb := eq_of_beq hb | replace hb := ne_of_beq_false hb | skip); all_goals (try (exfalso; omega)))
      | (apply aw_cond; exact rfl; all_goals intro hb; all_goals (try dsimp only at hb); all_goals (try simp only [hb]); all_goals (first | replace hb := of_decide_eq_true hb | replace hb := of_decide_eq_false hb | replace hb := bne_t hb | replace hb := bne_f hb | replace hb := eq_of_beq hb | replace hb := ne_of_beq_false hb | skip); all_goals (try (exfalso; omega))))
    all_goals first
      | (exfalso; omega)
      | (apply ret1; exact rfl; exact rfl)
  rw [decide_eq_false (Int.not_le.2 hcl)] at hHas
  have hO := ref2_Other W o.side
  have hS := fun q A' c' h m1 m2 => ref14_Side W h q A' c' l (otherB o.side) m1 m2 hB.le
  have hdo := fun p A c F => cross_Do W F p A c l o 3 hB
  have hme := fun x r => meets_head (how := 3) (o := o) (l := l) (x := x) (r := r)
  have hmn : sideO (otherB o.side) l = [] → (meetsO 3 o l).length = 0 := fun h => by unfold meetsO; rw [h]; rfl
  have hbk : (meetsO 3 o l).length = 0 → (doV 3 o l).bk = l ++ [o] := fun h => by rw [(post_waits hok hcl (by omega) h).1]
  have hT2 := fun x : Order => ref2_Takes W o.side o.price x.price
  have htk : ∀ x : Order, takesB 3 o x = (isB o.side && !betterB o.side x.price o.price) := fun x => rfl
  have hsl := sideO_len (otherB o.side) l
  generalize hsd : sideO (otherB o.side) l = sl at hS hme hmn hsl
  have waits : (meetsO 3 o l).length = 0 → (doV 3 o l).fills.length = 0 ∧ (doV 3 o l).gones.length = 0 ∧ (doV 3 o l).left = o.left ∧ (doV 3 o l).err = 0 ∧ (doV 3 o l).bk = l ++ [o] := fun h => by
    rw [(post_waits hok hcl (by omega) h).1]; exact ⟨rfl, rfl, rfl, rfl, rfl⟩
  have nots : 0 < (meetsO 3 o l).length → (doV 3 o l).fills.length = 0 ∧ (doV 3 o l).gones.length = 0 ∧ (doV 3 o l).left = 0 ∧ (doV 3 o l).err = 16 ∧ (doV 3 o l).bk = l := fun h => by
    rw [post_meets hok hcl (by omega) h]; exact ⟨rfl, rfl, rfl, rfl, rfl⟩
  have hget : ∀ h p A c, (meetsO 3 o l).length = 0 → Chunk.blk p 105 [.slice A (l ++ [o]).length c] ∈ h → Chunk.own A (l ++ [o]).length c 29 6 ((l ++ [o]).flatMap Order.enc) ∈ h → QSpec Try.prog W 33 [.pointer (some ⟨p, 0, none⟩), .int .i64 o.id] h (.tuple #[.agg o.enc.toArray, .bool true]) := fun h p A c hm m1 m2 => by
    have := (book_Get W p A c (l ++ [o]) o.id (by simp; omega)).mono (h' := h) (memPairB m1 m2)
    rw [(post_waits hok hcl (by omega) hm).2] at this
    exact this
  cases sl with
  | nil =>
    obtain ⟨w1, w2, w3, w4, w5⟩ := waits (hmn rfl)
    have hget := fun h p A c => hget h p A c (hmn rfl)
    rw [w3, w4, w5] at hdo
    generalize (doV 3 o l).fills = fl at hdo w1
    generalize (doV 3 o l).gones = go at hdo w2
    have hd : decide (((([] : List Order).length : Nat) : Int) > 0) = false := by decide
    generalize hnl : ([] : List Order) = sl at hS hd
    repeat' (first
      | (apply es_sameB hT; (iterate 5 exact rfl))
      | apply aw_seq | apply aw_region | apply aw_ret | apply aw_skip | apply aw_exit | apply aw_block | apply es_nil
      | (apply es_pure hT; (iterate 4 exact rfl)) | (apply es_skip; (iterate 3 exact rfl)) | (apply es_skip0; (iterate 2 exact rfl))
      | (apply es_i64 hT; (iterate 4 exact rfl); (iterate 2 (first | omega | (dsimp only; omega))))
      | (apply es_box; (iterate 5 exact rfl); intro g3)
      | (apply es_callQ (hs := (hMay.mono (by simp))); (iterate 7 exact rfl))
      | (apply es_call (hs := (hboth _)); (iterate 7 exact rfl); rintro _ _ ⟨p, A, c, q, A', c', rfl, rfl⟩)
      | (apply es_callQ (hs := ((hHas q A' c').mono (memPairB mem2 mem3))); (iterate 7 exact rfl))
      | (apply es_callQ (hs := (hO.mono (by simp))); (iterate 7 exact rfl))
      | (apply es_call (hs := (hS q A' c' _ (by (repeat (first | exact List.mem_cons_self | apply List.mem_cons_of_mem))) (by (repeat (first | exact List.mem_cons_self | apply List.mem_cons_of_mem))))); (iterate 7 exact rfl); (rintro _ _ ⟨AS, cS, rfl, rfl, hfS⟩; have hAS := hfS.some_))
      | (apply aw_draw [72] [] hmix; decide +kernel)
      | (apply es_call (hs := (FSpec.perm (hdo p A c [.own AS sl.length cS 29 6 (sl.flatMap Order.enc), .blk q 47 [.slice A' l.length c'], .own A' l.length c' 29 6 (l.flatMap Order.enc), .blk g3 29 o.enc]) (by (repeat (first | exact List.Perm.refl _ | (apply permC; · (repeat (first | exact sel0 | apply selS)))))))); (iterate 7 exact rfl); rintro _ _ ⟨Af, cf, Ag, cg, A2, c2, rfl, rfl, hfF, hfG⟩)
      | (apply es_callQ (hs := (hget _ p A2 c2 (by (repeat (first | exact List.mem_cons_self | apply List.mem_cons_of_mem))) (by (repeat (first | exact List.mem_cons_self | apply List.mem_cons_of_mem))))); (iterate 7 exact rfl))
      | (apply es_callQ (hs := (hkn.mono (by simp))); (iterate 7 exact rfl))
      | (apply es_alloc hT; (iterate 5 exact rfl); first | ((fail_if_success (have q := g13)); intro g13) | intro _)
      | (apply es_store hT; (iterate 6 exact rfl); (repeat (first | exact sel0 | apply selS)); (iterate 3 exact rfl); exact Nat.le_of_ble_eq_true rfl)
      | (apply es_eqS hT; (iterate 5 exact rfl); exact eqO_same _; exact sOKOrder)
      | (apply es_load; (iterate 5 exact rfl); first | (apply ld_blk hT; exact rfl; exact rfl; (repeat (first | exact List.mem_cons_self | apply List.mem_cons_of_mem)); exact rfl; exact rfl) | (apply ld_all hT; exact rfl; exact rfl; (repeat (first | exact List.mem_cons_self | apply List.mem_cons_of_mem)); exact rfl))
      | (apply es_box; (iterate 5 exact rfl); intro _) | (apply es_alloc hT; (iterate 5 exact rfl); intro _)
      | (apply aw_condT; (iterate 2 exact rfl)) | (apply aw_condF; (iterate 2 exact rfl))
      | (apply es_case; exact rfl; all_goals intro hb; all_goals (fail_if_success (change true = true at hb)); all_goals (fail_if_success (change false = false at hb)); all_goals (try dsimp only at hb); all_goals (try simp only [hb]); all_goals (first | replace hb := of_decide_eq_true hb | replace hb := of_decide_eq_false hb | replace hb := bne_t hb | replace hb := bne_f hb | replace hb := eq_of_beq hb | replace hb := ne_of_beq_false hb | skip); all_goals (try (exfalso; omega)))
      | (apply aw_cond; exact rfl; all_goals intro hb; all_goals (try dsimp only at hb); all_goals (try simp only [hb]); all_goals (first | replace hb := of_decide_eq_true hb | replace hb := of_decide_eq_false hb | replace hb := bne_t hb | replace hb := bne_f hb | replace hb := eq_of_beq hb | replace hb := ne_of_beq_false hb | skip); all_goals (try (exfalso; omega))))
    all_goals first
      | (exfalso; omega)
      | (apply ret1; exact rfl; exact rfl)
      | (exfalso; simp_all; done)
      | skip
  | cons x r =>
    have h0 : (x :: r)[(0 : Int).toNat]? = some x := rfl
    have hT2 := hT2 x
    rw [← htk] at hT2
    have hme := hme x r rfl
    generalize hnl : x :: r = sl at hdo hS h0 hsl
    have hpos : 0 < sl.length := by rw [← hnl]; simp
    have hd : decide (((sl.length : Nat) : Int) > 0) = true := by simp; omega
    cases htx : takesB 3 o x
    · rw [htx] at hT2
      obtain ⟨w1, w2, w3, w4, w5⟩ := waits (hme.2 htx)
      have hget := fun h p A c => hget h p A c (hme.2 htx)
      rw [w3, w4, w5] at hdo
      generalize (doV 3 o l).fills = fl at hdo w1
      generalize (doV 3 o l).gones = go at hdo w2
      repeat' (first
        | (apply es_sameB hT; (iterate 5 exact rfl))
        | apply aw_seq | apply aw_region | apply aw_ret | apply aw_skip | apply aw_exit | apply aw_block | apply es_nil
        | (apply es_pure hT; (iterate 4 exact rfl)) | (apply es_skip; (iterate 3 exact rfl)) | (apply es_skip0; (iterate 2 exact rfl))
        | (apply es_i64 hT; (iterate 4 exact rfl); (iterate 2 (first | omega | (dsimp only; omega))))
        | (apply es_box; (iterate 5 exact rfl); intro g3)
        | (apply es_callQ (hs := (hMay.mono (by simp))); (iterate 7 exact rfl))
        | (apply es_call (hs := (hboth _)); (iterate 7 exact rfl); rintro _ _ ⟨p, A, c, q, A', c', rfl, rfl⟩)
        | (apply es_callQ (hs := ((hHas q A' c').mono (memPairB mem2 mem3))); (iterate 7 exact rfl))
        | (apply es_callQ (hs := (hO.mono (by simp))); (iterate 7 exact rfl))
        | (apply es_call (hs := (hS q A' c' _ (by (repeat (first | exact List.mem_cons_self | apply List.mem_cons_of_mem))) (by (repeat (first | exact List.mem_cons_self | apply List.mem_cons_of_mem))))); (iterate 7 exact rfl); (rintro _ _ ⟨AS, cS, rfl, rfl, hfS⟩; have hAS := hfS.some_))
        | (apply aw_draw [72] [] hmix; decide +kernel)
        | (apply es_idx hT; (iterate 8 exact rfl); (iterate 2 omega); exact hAS hpos)
        | (apply es_load; (iterate 5 exact rfl); exact ld_fld hT rfl rfl (hfS.reads mem0) Order.enc_len (adr_add _ _ _) h0 (by decide) rfl)
        | (apply es_callQ (hs := (hT2.mono (by simp))); (iterate 7 exact rfl))
        | (apply es_call (hs := (FSpec.perm (hdo p A c [.own AS sl.length cS 29 6 (sl.flatMap Order.enc), .blk q 47 [.slice A' l.length c'], .own A' l.length c' 29 6 (l.flatMap Order.enc), .blk g3 29 o.enc]) (by (repeat (first | exact List.Perm.refl _ | (apply permC; · (repeat (first | exact sel0 | apply selS)))))))); (iterate 7 exact rfl); rintro _ _ ⟨Af, cf, Ag, cg, A2, c2, rfl, rfl, hfF, hfG⟩)
        | (apply es_callQ (hs := (hget _ p A2 c2 (by (repeat (first | exact List.mem_cons_self | apply List.mem_cons_of_mem))) (by (repeat (first | exact List.mem_cons_self | apply List.mem_cons_of_mem))))); (iterate 7 exact rfl))
        | (apply es_callQ (hs := (hkn.mono (by simp))); (iterate 7 exact rfl))
        | (apply es_alloc hT; (iterate 5 exact rfl); first | ((fail_if_success (have q := g13)); intro g13) | intro _)
        | (apply es_store hT; (iterate 6 exact rfl); (repeat (first | exact sel0 | apply selS)); (iterate 3 exact rfl); exact Nat.le_of_ble_eq_true rfl)
        | (apply es_eqS hT; (iterate 5 exact rfl); exact eqO_same _; exact sOKOrder)
        | (apply es_load; (iterate 5 exact rfl); first | (apply ld_blk hT; exact rfl; exact rfl; (repeat (first | exact List.mem_cons_self | apply List.mem_cons_of_mem)); exact rfl; exact rfl) | (apply ld_all hT; exact rfl; exact rfl; (repeat (first | exact List.mem_cons_self | apply List.mem_cons_of_mem)); exact rfl))
        | (apply es_box; (iterate 5 exact rfl); intro _) | (apply es_alloc hT; (iterate 5 exact rfl); intro _)
        | (apply aw_condT; (iterate 2 exact rfl)) | (apply aw_condF; (iterate 2 exact rfl))
        | (apply es_case; exact rfl; all_goals intro hb; all_goals (fail_if_success (change true = true at hb)); all_goals (fail_if_success (change false = false at hb)); all_goals (try dsimp only at hb); all_goals (try simp only [hb]); all_goals (first | replace hb := of_decide_eq_true hb | replace hb := of_decide_eq_false hb | replace hb := bne_t hb | replace hb := bne_f hb | replace hb := eq_of_beq hb | replace hb := ne_of_beq_false hb | skip); all_goals (try (exfalso; omega)))
        | (apply aw_cond; exact rfl; all_goals intro hb; all_goals (try dsimp only at hb); all_goals (try simp only [hb]); all_goals (first | replace hb := of_decide_eq_true hb | replace hb := of_decide_eq_false hb | replace hb := bne_t hb | replace hb := bne_f hb | replace hb := eq_of_beq hb | replace hb := ne_of_beq_false hb | skip); all_goals (try (exfalso; omega))))
      all_goals first
        | (exfalso; omega)
        | (apply ret1; exact rfl; exact rfl)
        | (exfalso; simp_all; done)
        | skip
    · rw [htx] at hT2
      obtain ⟨w1, w2, w3, w4, w5⟩ := nots (hme.1 htx)
      rw [w3, w4, w5] at hdo
      generalize (doV 3 o l).fills = fl at hdo w1
      generalize (doV 3 o l).gones = go at hdo w2
      repeat' (first
        | (apply es_sameB hT; (iterate 5 exact rfl))
        | apply aw_seq | apply aw_region | apply aw_ret | apply aw_skip | apply aw_exit | apply aw_block | apply es_nil
        | (apply es_pure hT; (iterate 4 exact rfl)) | (apply es_skip; (iterate 3 exact rfl)) | (apply es_skip0; (iterate 2 exact rfl))
        | (apply es_i64 hT; (iterate 4 exact rfl); (iterate 2 (first | omega | (dsimp only; omega))))
        | (apply es_box; (iterate 5 exact rfl); intro g3)
        | (apply es_callQ (hs := (hMay.mono (by simp))); (iterate 7 exact rfl))
        | (apply es_call (hs := (hboth _)); (iterate 7 exact rfl); rintro _ _ ⟨p, A, c, q, A', c', rfl, rfl⟩)
        | (apply es_callQ (hs := ((hHas q A' c').mono (memPairB mem2 mem3))); (iterate 7 exact rfl))
        | (apply es_callQ (hs := (hO.mono (by simp))); (iterate 7 exact rfl))
        | (apply es_call (hs := (hS q A' c' _ (by (repeat (first | exact List.mem_cons_self | apply List.mem_cons_of_mem))) (by (repeat (first | exact List.mem_cons_self | apply List.mem_cons_of_mem))))); (iterate 7 exact rfl); (rintro _ _ ⟨AS, cS, rfl, rfl, hfS⟩; have hAS := hfS.some_))
        | (apply aw_draw [72] [] hmix; decide +kernel)
        | (apply es_idx hT; (iterate 8 exact rfl); (iterate 2 omega); exact hAS hpos)
        | (apply es_load; (iterate 5 exact rfl); exact ld_fld hT rfl rfl (hfS.reads mem0) Order.enc_len (adr_add _ _ _) h0 (by decide) rfl)
        | (apply es_callQ (hs := (hT2.mono (by simp))); (iterate 7 exact rfl))
        | (apply es_call (hs := (FSpec.perm (hdo p A c [.own AS sl.length cS 29 6 (sl.flatMap Order.enc), .blk q 47 [.slice A' l.length c'], .own A' l.length c' 29 6 (l.flatMap Order.enc), .blk g3 29 o.enc]) (by (repeat (first | exact List.Perm.refl _ | (apply permC; · (repeat (first | exact sel0 | apply selS)))))))); (iterate 7 exact rfl); rintro _ _ ⟨Af, cf, Ag, cg, A2, c2, rfl, rfl, hfF, hfG⟩)
        | (apply es_callQ (hs := (same15 W _ p q A2 A' c2 c' l hB (by (repeat (first | exact List.mem_cons_self | apply List.mem_cons_of_mem))) (by (repeat (first | exact List.mem_cons_self | apply List.mem_cons_of_mem))) (by (repeat (first | exact List.mem_cons_self | apply List.mem_cons_of_mem))) (by (repeat (first | exact List.mem_cons_self | apply List.mem_cons_of_mem))))); (iterate 7 exact rfl))
        | (apply es_callQ (hs := (hkn.mono (by simp))); (iterate 7 exact rfl))
        | (apply es_alloc hT; (iterate 5 exact rfl); first | ((fail_if_success (have q := g13)); intro g13) | intro _)
        | (apply es_store hT; (iterate 6 exact rfl); (repeat (first | exact sel0 | apply selS)); (iterate 3 exact rfl); exact Nat.le_of_ble_eq_true rfl)
        | (apply es_eqS hT; (iterate 5 exact rfl); exact eqO_same _; exact sOKOrder)
        | (apply es_load; (iterate 5 exact rfl); first | (apply ld_blk hT; exact rfl; exact rfl; (repeat (first | exact List.mem_cons_self | apply List.mem_cons_of_mem)); exact rfl; exact rfl) | (apply ld_all hT; exact rfl; exact rfl; (repeat (first | exact List.mem_cons_self | apply List.mem_cons_of_mem)); exact rfl))
        | (apply es_box; (iterate 5 exact rfl); intro _) | (apply es_alloc hT; (iterate 5 exact rfl); intro _)
        | (apply aw_condT; (iterate 2 exact rfl)) | (apply aw_condF; (iterate 2 exact rfl))
        | (apply es_case; exact rfl; all_goals intro hb; all_goals (fail_if_success (change true = true at hb)); all_goals (fail_if_success (change false = false at hb)); all_goals (try dsimp only at hb); all_goals (try simp only [hb]); all_goals (first | replace hb := of_decide_eq_true hb | replace hb := of_decide_eq_false hb | replace hb := bne_t hb | replace hb := bne_f hb | replace hb := eq_of_beq hb | replace hb := ne_of_beq_false hb | skip); all_goals (try (exfalso; omega)))
        | (apply aw_cond; exact rfl; all_goals intro hb; all_goals (try dsimp only at hb); all_goals (try simp only [hb]); all_goals (first | replace hb := of_decide_eq_true hb | replace hb := of_decide_eq_false hb | replace hb := bne_t hb | replace hb := bne_f hb | replace hb := eq_of_beq hb | replace hb := ne_of_beq_false hb | skip); all_goals (try (exfalso; omega))))
      all_goals first
        | (exfalso; omega)
        | (apply ret1; exact rfl; exact rfl)
        | (exfalso; simp_all; done)
        | skip
end Go.Proofs.Ytiefkpfamkkapaa
