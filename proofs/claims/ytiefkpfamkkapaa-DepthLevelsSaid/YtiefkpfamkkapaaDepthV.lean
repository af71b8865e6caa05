/- What the statement DepthLevels answers. Conditions stand in each statement. -/
import Derived.Test.YtiefkpfamkkapaaDepthO
set_option linter.unusedSimpArgs false
set_option linter.unusedVariables false
namespace Go.Proofs.Ytiefkpfamkkapaa
open Go Go.Sl
attribute [local irreducible] AW ES EP Ld RetQ
set_option maxRecDepth 100000

/-- one more than some have costs one of the next -/
theorem sweep_next {l : List (Int × Int)} (h : okP l) {k : Nat} {x : Int × Int} (hx : l[k]? = some x) : costL l (totL (l.take k) + 1) = cAll (l.take k) + x.1 := by
  have h0 := totL_pos (okP_take h k)
  have hxo := h x (List.mem_of_getElem? hx)
  have st := totL_step hx
  have hq : 0 ≤ totL (l.take k) + 1 := by omega
  rw [← cost_stop h (k + 1) hq (by rw [st]; omega), (cost_step h hx hq).1, costL_all (okP_take h k) (by omega)]
  rw [show min (totL (l.take k) + 1 - min (totL (l.take k) + 1) (totL (l.take k))) x.2 = 1 by omega, Int.mul_one]; rfl

set_option maxHeartbeats 2000000 in
theorem depth_Levels (W : World) (A0 : Option Addr) (c0 : Nat) (ls : List Order) (s : Int) (hr0 : Reads W [] A0 ls.length 6 (ls.flatMap Order.enc)) :
    FSpec Try.prog W 10 [.slice A0 ls.length c0, .int .i64 s] [] (fun v _ => v = .bool true) := by
  refine spec_body Try.func10 rfl rfl Try.results10 Try.ntmps10 rfl rfl ?_
  by_cases h1 : ls.length > 60
  · repeat' (first
      | apply aw_seq | apply aw_region | apply aw_ret | apply aw_skip | apply aw_exit | apply aw_block | apply es_nil
      | (apply es_pure hT; (iterate 4 exact rfl)) | (apply es_skip; (iterate 3 exact rfl)) | (apply es_skip0; (iterate 2 exact rfl))
      | (apply es_i64 hT; (iterate 4 exact rfl); (iterate 2 omega))
      | (apply aw_draw [] [] hmix; decide +kernel)
      | (apply es_load; (iterate 5 exact rfl); first | (apply ld_blk hT; exact rfl; exact rfl; (repeat (first | exact List.mem_cons_self | apply List.mem_cons_of_mem)); exact rfl; exact rfl) | (apply ld_all hT; exact rfl; exact rfl; (repeat (first | exact List.mem_cons_self | apply List.mem_cons_of_mem)); exact rfl))
      | (apply es_box; (iterate 5 exact rfl); intro _) | (apply es_alloc hT; (iterate 5 exact rfl); intro _)
      | (apply aw_condT; (iterate 2 exact rfl)) | (apply aw_condF; (iterate 2 exact rfl))
      | (apply es_case; exact rfl; all_goals intro hb; all_goals (try simp only [hb]); all_goals (first | replace hb := of_decide_eq_true hb | replace hb := of_decide_eq_false hb | replace hb := bne_t hb | replace hb := bne_f hb | skip); all_goals (try (exfalso; omega)))
      | (apply aw_cond; exact rfl; all_goals intro hb; all_goals (try simp only [hb]); all_goals (first | replace hb := of_decide_eq_true hb | replace hb := of_decide_eq_false hb | replace hb := bne_t hb | replace hb := bne_f hb | skip); all_goals (try (exfalso; omega))))
    apply ret1; exact rfl; exact rfl
  have hboth := both16 W [] A0 c0 ls hr0 (by omega)
  have hB := bookOf_B ls
  generalize bookOf ls = l at hboth hB
  have hL := fun q A' c' h m1 m2 => ref14_Levels W h q A' c' l s m1 m2 hB.le hB.left
  have ha1 := fun p A c => depth_All W p A c l s hB
  have hkn := depth_known W
  obtain ⟨hok, htot, hcost⟩ := levels_cost (hB.okS s)
  have hbd := allS_bd hB s
  have hvl := levels_len (sideO s l)
  have hsl := sideO_len s l
  have hbl := hB.len
  have hsp := fun p A c q => depth_Sweep W p A c l s q hB
  have hal : allS s l = totL ((levelsO (sideO s l)).map pqL) := htot.symm
  have hsw : ∀ k x, ((levelsO (sideO s l)).map pqL)[k]? = some x → sweepS s l (totL (((levelsO (sideO s l)).map pqL).take k) + 1) = some (cAll (((levelsO (sideO s l)).map pqL).take k) + x.1).toNat := fun k x hx => by
    have h0 := totL_pos (okP_take hok k)
    have := totL_take hok (k + 1)
    have hxo := hok x (List.mem_of_getElem? hx)
    rw [totL_step hx] at this
    unfold sweepS
    rw [if_neg (by rw [hal]; omega), ← hcost _ (by omega), sweep_next hok hx]
  have hsn : sweepS s l (allS s l + 1) = none := by unfold sweepS; rw [if_pos (by omega)]
  have hs0 : sweepS s l 0 = none := by unfold sweepS; rw [if_pos (by omega)]
  have hsp0 := fun p A c => hsp p A c 0
  have hspn := fun p A c => hsp p A c (allS s l + 1)
  rw [hs0] at hsp0
  rw [hsn] at hspn
  rw [hal] at ha1 hbd hspn
  generalize levelsO (sideO s l) = v at hL ha1 hok hbd hvl hsw hspn
  repeat' (first
    | apply aw_seq | apply aw_region | apply aw_ret | apply aw_skip | apply aw_exit | apply aw_block | apply es_nil
    | (apply es_pure hT; (iterate 4 exact rfl)) | (apply es_skip; (iterate 3 exact rfl)) | (apply es_skip0; (iterate 2 exact rfl))
    | (apply es_i64 hT; (iterate 4 exact rfl); (iterate 2 omega))
    | (apply aw_draw [] [] hmix; decide +kernel)
    | (apply es_call (hs := hboth); (iterate 7 exact rfl); rintro _ _ ⟨p, A, c, q, A', c', rfl, rfl⟩)
    | (apply es_call (hs := (hL q A' c' _ mem2 mem3)); (iterate 7 exact rfl); rintro _ _ ⟨AO, cO, rfl, rfl, hfO⟩)
    | (apply es_alloc hT; (iterate 5 exact rfl); intro g9)
    | (apply es_load; (iterate 5 exact rfl); first | (apply ld_blk hT; exact rfl; exact rfl; (repeat (first | exact List.mem_cons_self | apply List.mem_cons_of_mem)); exact rfl; exact rfl) | (apply ld_all hT; exact rfl; exact rfl; (repeat (first | exact List.mem_cons_self | apply List.mem_cons_of_mem)); exact rfl))
    | (apply es_box; (iterate 5 exact rfl); intro _) | (apply es_alloc hT; (iterate 5 exact rfl); intro _)
    | (apply aw_condT; (iterate 2 exact rfl)) | (apply aw_condF; (iterate 2 exact rfl))
    | (apply es_case; exact rfl; all_goals intro hb; all_goals (try simp only [hb]); all_goals (first | replace hb := of_decide_eq_true hb | replace hb := of_decide_eq_false hb | replace hb := bne_t hb | replace hb := bne_f hb | skip); all_goals (try (exfalso; omega)))
    | (apply aw_cond; exact rfl; all_goals intro hb; all_goals (try simp only [hb]); all_goals (first | replace hb := of_decide_eq_true hb | replace hb := of_decide_eq_false hb | replace hb := bne_t hb | replace hb := bne_f hb | skip); all_goals (try (exfalso; omega))))
  all_goals try (exfalso; omega)
  refine aw_loopD (α := Nat) (E := fun k => [(1, .int .i64 s), (5, .pointer (some ⟨p, 0, none⟩)), (7, .slice AO v.length cO), (8, .int .i64 (totL ((v.map pqL).take k))), (9, .pointer (some ⟨g9, 0, none⟩)), (10, .int .i64 k)])
    (H := fun k => .blk g9 58 (wideE (cAll ((v.map pqL).take k)).toNat) :: .own AO v.length cO 35 2 (v.flatMap Lvl.enc) :: bookTab p A c l []) (μ := fun k => v.length - k)
    (S := fun k => k ≤ v.length) 0 (Nat.zero_le _) ⟨rfl, rfl, rfl, rfl, rfl, rfl, trivial⟩ (by rw [List.take_zero, show (cAll []).toNat = 0 from rfl]; (repeat (first | exact dt_end | (apply dt_cons; · (repeat (first | exact sel0 | apply selS))) | apply dt_skip))) ?_
  intro k hk
  by_cases hlt : k < v.length
  · obtain ⟨x, hx⟩ : ∃ x, v[k]? = some x := ⟨v[k]'(by omega), List.getElem?_eq_getElem (by omega)⟩
    have hx2 : v[(k : Int).toNat]? = some x := by simpa using hx
    have hA := hfO.some_ (by omega)
    have hd1 : decide ((k : Int) < (v.length : Int)) = true := by simp; omega
    have hxm : (v.map pqL)[k]? = some (x.price, x.qty) := by simp [hx, pqL]
    have hxo := hok _ (List.mem_of_getElem? hxm)
    have st1 := cAll_step hxm
    have st2 := totL_step hxm
    have hs1 := hsw k _ hxm
    dsimp only at st1 st2 hxo hs1
    have hb0 := cAll_bd (okP_take hok k)
    have hb1 := cAll_bd (okP_take hok (k + 1))
    have ht0 := totL_pos (okP_take hok k)
    have ht1 := totL_take hok (k + 1)
    have hsp1 := fun p A c => (hsp p A c (totL ((v.map pqL).take k) + 1))
    rw [hs1] at hsp1
    rw [st1, st2] at hb1
    rw [st2] at ht1
    generalize cAll ((v.map pqL).take k) = co at hb0 hb1 st1 hsp1 ⊢
    generalize totL ((v.map pqL).take k) = tk at hb0 hb1 ht0 ht1 st2 hsp1 ⊢
    have hsb := step_bd (n := x.qty) hxo.1 hxo.2.1 (by omega)
    have hT1 := ref1_TimesI W x.price 1 (by omega) (by omega)
    have hP1 := ref1_Plus W co.toNat (x.price * 1).toNat (by omega)
    rw [show co.toNat + (x.price * 1).toNat = (co + x.price).toNat by omega] at hP1
    have hTm := ref1_TimesI W x.price x.qty (by omega) (by omega)
    have hPl := ref1_Plus W co.toNat (x.price * x.qty).toNat (by omega)
    rw [show co.toNat + (x.price * x.qty).toNat = (co + x.price * x.qty).toNat by omega] at hPl
    generalize (co + x.price).toNat = w1 at hP1 hsp1
    have hrd : ∀ h, Chunk.own AO v.length cO 35 2 (v.flatMap Lvl.enc) ∈ h → Reads W h AO v.length 2 (v.flatMap Lvl.enc) := fun h m => hfO.reads m
    repeat' (first
      | apply aw_seq | apply aw_region | apply aw_ret | apply aw_skip | apply aw_exit | apply aw_block | apply es_nil
      | (apply es_pure hT; (iterate 4 exact rfl)) | (apply es_skip; (iterate 3 exact rfl)) | (apply es_skip0; (iterate 2 exact rfl))
      | (apply es_i64 hT; (iterate 4 exact rfl); (iterate 2 omega))
      | (apply aw_draw [48] [] hmix; decide +kernel)
      | (apply es_idx hT; (iterate 8 exact rfl); (iterate 2 omega); exact hA)
      | (apply es_load; (iterate 5 exact rfl); exact ld_fld hT rfl rfl (hrd _ (by (repeat (first | exact List.mem_cons_self | apply List.mem_cons_of_mem)))) Lvl.enc_len (adr_add _ _ _) hx2 (by decide) rfl)
      | (apply es_alloc hT; (iterate 5 exact rfl); intro g11)
      | (apply es_callQ (hs := (hT1.mono (by simp))); (iterate 7 exact rfl))
      | (apply es_callQ (hs := (hP1.mono (by simp))); (iterate 7 exact rfl))
      | (apply es_callQ (hs := (hTm.mono (by simp))); (iterate 7 exact rfl))
      | (apply es_callQ (hs := (hPl.mono (by simp))); (iterate 7 exact rfl))
      | (apply es_callQ (hs := ((hsp1 p A c).mono (memPairB mem3 mem4))); (iterate 7 exact rfl))
      | (apply es_store hT; (iterate 6 exact rfl); (repeat (first | exact sel0 | apply selS)); (iterate 3 exact rfl); exact Nat.le_of_ble_eq_true rfl)
      | (apply es_neS hT; (iterate 5 exact rfl); exact eqW_same _; exact sOKWide)
      | (apply es_load; (iterate 5 exact rfl); first | (apply ld_blk hT; exact rfl; exact rfl; (repeat (first | exact List.mem_cons_self | apply List.mem_cons_of_mem)); exact rfl; exact rfl) | (apply ld_all hT; exact rfl; exact rfl; (repeat (first | exact List.mem_cons_self | apply List.mem_cons_of_mem)); exact rfl))
      | (apply es_box; (iterate 5 exact rfl); intro _) | (apply es_alloc hT; (iterate 5 exact rfl); intro _)
      | (apply aw_condT; (iterate 2 exact rfl)) | (apply aw_condF; (iterate 2 exact rfl))
      | (apply es_case; exact rfl; all_goals intro hb; all_goals (try simp only [hb]); all_goals (first | replace hb := of_decide_eq_true hb | replace hb := of_decide_eq_false hb | replace hb := bne_t hb | replace hb := bne_f hb | skip); all_goals (try (exfalso; omega)))
      | (apply aw_cond; exact rfl; all_goals intro hb; all_goals (try simp only [hb]); all_goals (first | replace hb := of_decide_eq_true hb | replace hb := of_decide_eq_false hb | replace hb := bne_t hb | replace hb := bne_f hb | skip); all_goals (try (exfalso; omega))))
    all_goals first
      | (exfalso; omega)
      | (refine loopq_end (k + 1) (by (try dsimp only); omega) (by (try dsimp only); omega) ⟨rfl, rfl, rfl, by (try dsimp only); rw [st2]; rfl, rfl, rfl, trivial⟩ ?_
         (try dsimp only)
         rw [st1]
         (repeat (first | exact dt_end | (apply dt_cons; · (repeat (first | exact sel0 | apply selS))) | apply dt_skip)))
      | skip
  · obtain rfl : k = v.length := by omega
    have hd1 : decide ((v.length : Int) < (v.length : Int)) = false := by simp
    have e : (v.map pqL).take v.length = v.map pqL := List.take_of_length_le (by simp)
    rw [e]
    have ht0 := totL_pos hok
    repeat' (first
      | (apply es_sameB hT; (iterate 5 exact rfl))
      | apply aw_seq | apply aw_region | apply aw_ret | apply aw_skip | apply aw_exit | apply aw_block | apply es_nil
      | (apply es_pure hT; (iterate 4 exact rfl)) | (apply es_skip; (iterate 3 exact rfl)) | (apply es_skip0; (iterate 2 exact rfl))
      | (apply es_i64 hT; (iterate 4 exact rfl); (iterate 2 omega))
      | (apply aw_draw [] [] hmix; decide +kernel)
      | (apply es_alloc hT; (iterate 5 exact rfl); intro g19)
      | (apply es_callQ (hs := ((hspn p A c).mono (memPairB mem2 mem3))); (iterate 7 exact rfl))
      | (apply es_callQ (hs := ((hsp0 p A c).mono (memPairB mem3 mem4))); (iterate 7 exact rfl))
      | (apply es_callQ (hs := ((ha1 p A c).mono (memPairB mem4 mem5))); (iterate 7 exact rfl))
      | (apply es_callQ (hs := (hkn.mono (by simp))); (iterate 7 exact rfl))
      | (apply es_store hT; (iterate 6 exact rfl); (repeat (first | exact sel0 | apply selS)); (iterate 3 exact rfl); exact Nat.le_of_ble_eq_true rfl)
      | (apply es_load; (iterate 5 exact rfl); first | (apply ld_blk hT; exact rfl; exact rfl; (repeat (first | exact List.mem_cons_self | apply List.mem_cons_of_mem)); exact rfl; exact rfl) | (apply ld_all hT; exact rfl; exact rfl; (repeat (first | exact List.mem_cons_self | apply List.mem_cons_of_mem)); exact rfl))
      | (apply es_box; (iterate 5 exact rfl); intro _) | (apply es_alloc hT; (iterate 5 exact rfl); intro _)
      | (apply aw_condT; (iterate 2 exact rfl)) | (apply aw_condF; (iterate 2 exact rfl))
      | (apply es_case; exact rfl; all_goals intro hb; all_goals (try simp only [hb]); all_goals (first | replace hb := of_decide_eq_true hb | replace hb := of_decide_eq_false hb | replace hb := bne_t hb | replace hb := bne_f hb | skip); all_goals (try (exfalso; omega)))
      | (apply aw_cond; exact rfl; all_goals intro hb; all_goals (try simp only [hb]); all_goals (first | replace hb := of_decide_eq_true hb | replace hb := of_decide_eq_false hb | replace hb := bne_t hb | replace hb := bne_f hb | skip); all_goals (try (exfalso; omega))))
    all_goals first
      | (exfalso; omega)
      | (apply ret1; exact rfl; exact rfl)
      | skip
end Go.Proofs.Ytiefkpfamkkapaa
