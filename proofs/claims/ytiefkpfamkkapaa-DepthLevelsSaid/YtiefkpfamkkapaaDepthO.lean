/- What the statement DepthOrders answers. Conditions stand in each statement. -/
import Derived.Test.YtiefkpfamkkapaaDepthK
import Derived.Test.YtiefkpfamkkapaaSlK
set_option linter.unusedSimpArgs false
set_option linter.unusedVariables false
namespace Go.Proofs.Ytiefkpfamkkapaa
open Go Go.Sl
attribute [local irreducible] AW ES EP Ld RetQ
set_option maxRecDepth 100000

def cAll (l : List (Int × Int)) : Int := (l.map fun x => x.1 * x.2).sum
theorem cAll_step {l : List (Int × Int)} {k : Nat} {x : Int × Int} (h : l[k]? = some x) : cAll (l.take (k + 1)) = cAll (l.take k) + x.1 * x.2 := by
  rw [cAll, take_map _ h, sum_append]; simp [cAll]
theorem totL_step {l : List (Int × Int)} {k : Nat} {x : Int × Int} (h : l[k]? = some x) : totL (l.take (k + 1)) = totL (l.take k) + x.2 := by
  rw [totL, take_map _ h, sum_append]; simp [totL]
theorem cAll_bd {l : List (Int × Int)} (h : okP l) : 0 ≤ cAll l ∧ cAll l ≤ 1000000 * totL l := by
  have h1 := costL_bound h (q := totL l) (totL_pos h)
  rw [costL_all h (Int.le_refl _), Int.min_self] at h1
  have := totL_pos h
  unfold cAll
  omega
/-- so much as some orders have costs what they cost -/
theorem sweep_at {l : List (Int × Int)} (h : okP l) (k : Nat) : costL l (totL (l.take k)) = cAll (l.take k) := by
  rw [← cost_stop h k (totL_pos (okP_take h k)) (by omega), costL_all (okP_take h k) (Int.le_refl _)]; rfl

set_option maxHeartbeats 2000000 in
theorem depth_Orders (W : World) (A0 : Option Addr) (c0 : Nat) (ls : List Order) (s : Int) (hr0 : Reads W [] A0 ls.length 6 (ls.flatMap Order.enc)) :
    FSpec Try.prog W 9 [.slice A0 ls.length c0, .int .i64 s] [] (fun v _ => v = .bool true) := by
  refine spec_body Try.func9 rfl rfl Try.results9 Try.ntmps9 rfl rfl ?_
  by_cases h1 : ls.length > 60
  · repeat' (first
      | apply aw_seq | apply aw_region | apply aw_ret | apply aw_skip | apply aw_exit | apply aw_block | apply es_nil
      | (apply es_pure hT; (iterate 4 exact rfl)) | (apply es_skip; (iterate 3 exact rfl)) | (apply es_skip0; (iterate 2 exact rfl))
      | (apply es_i64 hT; (iterate 4 exact rfl); (iterate 2 omega))
      | (apply aw_draw [] [] hmix; decide +kernel)
      | (apply es_load; (iterate 5 exact rfl); first | (apply ld_blk hT; exact rfl; exact rfl; (repeat (first | exact List.mem_cons_self | apply List.mem_cons_of_mem)); exact rfl; exact rfl) | (apply ld_all hT; exact rfl; exact rfl; (repeat (first | exact List.mem_cons_self | apply List.mem_cons_of_mem)); exact rfl))
      | (apply es_box; (iterate 5 exact rfl); intro _) | (apply es_alloc hT; (iterate 5 exact rfl); intro _)
      | (apply aw_condT; (iterate 2 exact rfl)) | (apply aw_condF; (iterate 2 exact rfl))
      | (apply es_case; exact rfl; all_goals intro hb; all_goals (try simp only [hb]); all_goals (first | replace hb := of_decide_eq_true hb | replace hb := of_decide_eq_false hb | replace hb := bne_t hb | replace hb := bne_f hb | skip); all_goals (try (exfalso; omega)))
      | (apply aw_cond; exact rfl; all_goals intro hb; all_goals (try simp only [hb]); all_goals (first | replace hb := of_decide_eq_true hb | replace hb := of_decide_eq_false hb | replace hb := bne_t hb | replace hb := bne_f hb | skip); all_goals (try (exfalso; omega))))
    apply ret1; exact rfl; exact rfl
  have hboth := both16 W [] A0 c0 ls hr0 (by omega)
  have hB := bookOf_B ls
  generalize bookOf ls = l at hboth hB
  have hS := fun q A' c' h m1 m2 => ref14_Side W h q A' c' l s m1 m2 hB.le
  have ha1 := fun p A c => depth_All W p A c l s hB
  have hkn := depth_known W
  have hok := (hB.okS s).pq
  have hbd := allS_bd hB s
  have hsl := sideO_len s l
  have hbl := hB.len
  have hsw : ∀ k, 1 ≤ totL (((sideO s l).map pqO).take k) → sweepS s l (totL (((sideO s l).map pqO).take k)) = some (cAll (((sideO s l).map pqO).take k)).toNat := fun k h => by
    unfold sweepS allS
    have := totL_take hok k
    rw [if_neg (by omega), sweep_at hok]
  have hsp := fun p A c q => depth_Sweep W p A c l s q hB
  have hal : allS s l = totL ((sideO s l).map pqO) := rfl
  rw [hal] at ha1 hbd
  generalize sideO s l = o at hS ha1 hok hbd hsl hsw
  repeat' (first
    | apply aw_seq | apply aw_region | apply aw_ret | apply aw_skip | apply aw_exit | apply aw_block | apply es_nil
    | (apply es_pure hT; (iterate 4 exact rfl)) | (apply es_skip; (iterate 3 exact rfl)) | (apply es_skip0; (iterate 2 exact rfl))
    | (apply es_i64 hT; (iterate 4 exact rfl); (iterate 2 omega))
    | (apply aw_draw [] [] hmix; decide +kernel)
    | (apply es_call (hs := hboth); (iterate 7 exact rfl); rintro _ _ ⟨p, A, c, q, A', c', rfl, rfl⟩)
    | (apply es_call (hs := (hS q A' c' _ mem2 mem3)); (iterate 7 exact rfl); rintro _ _ ⟨AO, cO, rfl, rfl, hfO⟩)
    | (apply es_alloc hT; (iterate 5 exact rfl); intro g8)
    | (apply es_load; (iterate 5 exact rfl); first | (apply ld_blk hT; exact rfl; exact rfl; (repeat (first | exact List.mem_cons_self | apply List.mem_cons_of_mem)); exact rfl; exact rfl) | (apply ld_all hT; exact rfl; exact rfl; (repeat (first | exact List.mem_cons_self | apply List.mem_cons_of_mem)); exact rfl))
    | (apply es_box; (iterate 5 exact rfl); intro _) | (apply es_alloc hT; (iterate 5 exact rfl); intro _)
    | (apply aw_condT; (iterate 2 exact rfl)) | (apply aw_condF; (iterate 2 exact rfl))
    | (apply es_case; exact rfl; all_goals intro hb; all_goals (try simp only [hb]); all_goals (first | replace hb := of_decide_eq_true hb | replace hb := of_decide_eq_false hb | replace hb := bne_t hb | replace hb := bne_f hb | skip); all_goals (try (exfalso; omega)))
    | (apply aw_cond; exact rfl; all_goals intro hb; all_goals (try simp only [hb]); all_goals (first | replace hb := of_decide_eq_true hb | replace hb := of_decide_eq_false hb | replace hb := bne_t hb | replace hb := bne_f hb | skip); all_goals (try (exfalso; omega))))
  all_goals try (exfalso; omega)
  refine aw_loopD (α := Nat) (E := fun k => [(1, .int .i64 s), (5, .pointer (some ⟨p, 0, none⟩)), (7, .slice AO o.length cO), (8, .pointer (some ⟨g8, 0, none⟩)), (9, .int .i64 (totL ((o.map pqO).take k))), (10, .int .i64 k)])
    (H := fun k => .blk g8 58 (wideE (cAll ((o.map pqO).take k)).toNat) :: .own AO o.length cO 29 6 (o.flatMap Order.enc) :: bookTab p A c l []) (μ := fun k => o.length - k)
    (S := fun k => k ≤ o.length) 0 (Nat.zero_le _) ⟨rfl, rfl, rfl, rfl, rfl, rfl, trivial⟩ (by rw [List.take_zero, show (cAll []).toNat = 0 from rfl]; (repeat (first | exact dt_end | (apply dt_cons; · (repeat (first | exact sel0 | apply selS))) | apply dt_skip))) ?_
  intro k hk
  by_cases hlt : k < o.length
  · obtain ⟨x, hx⟩ : ∃ x, o[k]? = some x := ⟨o[k]'(by omega), List.getElem?_eq_getElem (by omega)⟩
    have hx2 : o[(k : Int).toNat]? = some x := by simpa using hx
    have hA := hfO.some_ (by omega)
    have hd1 : decide ((k : Int) < (o.length : Int)) = true := by simp; omega
    have hxm : (o.map pqO)[k]? = some (x.price, x.left) := by simp [hx, pqO]
    have hxo := hok _ (List.mem_of_getElem? hxm)
    have st1 := cAll_step hxm
    have st2 := totL_step hxm
    dsimp only at st1 st2 hxo
    have hb0 := cAll_bd (okP_take hok k)
    have hb1 := cAll_bd (okP_take hok (k + 1))
    have ht0 := totL_pos (okP_take hok k)
    have ht1 := totL_take hok (k + 1)
    have hs1 := hsw (k + 1) (by omega)
    have hsp1 := fun p A c => (hsp p A c (totL ((o.map pqO).take (k + 1))))
    rw [hs1, st1, st2] at hsp1
    rw [st1, st2] at hb1
    rw [st2] at ht1
    generalize cAll ((o.map pqO).take k) = co at hb0 hb1 st1 hsp1 ⊢
    generalize totL ((o.map pqO).take k) = tk at hb0 hb1 ht0 ht1 st2 hsp1 ⊢
    have hsb := step_bd (n := x.left) hxo.1 hxo.2.1 (by omega)
    have hTm := ref1_TimesI W x.price x.left (by omega) (by omega)
    have hPl := ref1_Plus W co.toNat (x.price * x.left).toNat (by omega)
    rw [show co.toNat + (x.price * x.left).toNat = (co + x.price * x.left).toNat by omega] at hPl
    repeat' (first
      | apply aw_seq | apply aw_region | apply aw_ret | apply aw_skip | apply aw_exit | apply aw_block | apply es_nil
      | (apply es_pure hT; (iterate 4 exact rfl)) | (apply es_skip; (iterate 3 exact rfl)) | (apply es_skip0; (iterate 2 exact rfl))
      | (apply es_i64 hT; (iterate 4 exact rfl); (iterate 2 omega))
      | (apply aw_draw [48] [] hmix; decide +kernel)
      | (apply es_idx hT; (iterate 8 exact rfl); (iterate 2 omega); exact hA)
      | (apply es_load; (iterate 5 exact rfl); exact ld_fld hT rfl rfl (hfO.reads mem1) Order.enc_len (adr_add _ _ _) hx2 (by decide) rfl)
      | (apply es_load; (iterate 5 exact rfl); exact ld_fld hT rfl rfl (hfO.reads mem2) Order.enc_len (adr_add _ _ _) hx2 (by decide) rfl)
      | (apply es_alloc hT; (iterate 5 exact rfl); intro g11)
      | (apply es_callQ (hs := (hTm.mono (by simp))); (iterate 7 exact rfl))
      | (apply es_callQ (hs := (hPl.mono (by simp))); (iterate 7 exact rfl))
      | (apply es_callQ (hs := ((hsp1 p A c).mono (memPairB mem3 mem4))); (iterate 7 exact rfl))
      | (apply es_store hT; (iterate 6 exact rfl); (repeat (first | exact sel0 | apply selS)); (iterate 3 exact rfl); exact Nat.le_of_ble_eq_true rfl)
      | (apply es_neS hT; (iterate 5 exact rfl); exact eqW_same _; exact sOKWide)
      | (apply es_load; (iterate 5 exact rfl); first | (apply ld_blk hT; exact rfl; exact rfl; (repeat (first | exact List.mem_cons_self | apply List.mem_cons_of_mem)); exact rfl; exact rfl) | (apply ld_all hT; exact rfl; exact rfl; (repeat (first | exact List.mem_cons_self | apply List.mem_cons_of_mem)); exact rfl))
      | (apply es_box; (iterate 5 exact rfl); intro _) | (apply es_alloc hT; (iterate 5 exact rfl); intro _)
      | (apply aw_condT; (iterate 2 exact rfl)) | (apply aw_condF; (iterate 2 exact rfl))
      | (apply es_case; exact rfl; all_goals intro hb; all_goals (try simp only [hb]); all_goals (first | replace hb := of_decide_eq_true hb | replace hb := of_decide_eq_false hb | replace hb := bne_t hb | replace hb := bne_f hb | skip); all_goals (try (exfalso; omega)))
      | (apply aw_cond; exact rfl; all_goals intro hb; all_goals (try simp only [hb]); all_goals (first | replace hb := of_decide_eq_true hb | replace hb := of_decide_eq_false hb | replace hb := bne_t hb | replace hb := bne_f hb | skip); all_goals (try (exfalso; omega))))
    all_goals first
      | (exfalso; omega)
      | (refine loopq_end (k + 1) (by (try dsimp only); omega) (by (try dsimp only); omega) ⟨rfl, rfl, rfl, rfl, by (try dsimp only); rw [st2]; rfl, rfl, trivial⟩ ?_
         (try dsimp only)
         rw [st1]
         (repeat (first | exact dt_end | (apply dt_cons; · (repeat (first | exact sel0 | apply selS))) | apply dt_skip)))
      | skip
  · obtain rfl : k = o.length := by omega
    have hd1 : decide ((o.length : Int) < (o.length : Int)) = false := by simp
    have e : (o.map pqO).take o.length = o.map pqO := List.take_of_length_le (by simp)
    rw [e]
    repeat' (first
      | (apply es_sameB hT; (iterate 5 exact rfl))
      | apply aw_seq | apply aw_region | apply aw_ret | apply aw_skip | apply aw_exit | apply aw_block | apply es_nil
      | (apply es_pure hT; (iterate 4 exact rfl)) | (apply es_skip; (iterate 3 exact rfl)) | (apply es_skip0; (iterate 2 exact rfl))
      | (apply es_i64 hT; (iterate 4 exact rfl); (iterate 2 omega))
      | (apply aw_draw [] [] hmix; decide +kernel)
      | (apply es_callQ (hs := ((ha1 p A c).mono (memPairB mem2 mem3))); (iterate 7 exact rfl))
      | (apply es_callQ (hs := (hkn.mono (by simp))); (iterate 7 exact rfl))
      | (apply es_load; (iterate 5 exact rfl); first | (apply ld_blk hT; exact rfl; exact rfl; (repeat (first | exact List.mem_cons_self | apply List.mem_cons_of_mem)); exact rfl; exact rfl) | (apply ld_all hT; exact rfl; exact rfl; (repeat (first | exact List.mem_cons_self | apply List.mem_cons_of_mem)); exact rfl))
      | (apply es_box; (iterate 5 exact rfl); intro _) | (apply es_alloc hT; (iterate 5 exact rfl); intro _)
      | (apply aw_condT; (iterate 2 exact rfl)) | (apply aw_condF; (iterate 2 exact rfl))
      | (apply es_case; exact rfl; all_goals intro hb; all_goals (try simp only [hb]); all_goals (first | replace hb := of_decide_eq_true hb | replace hb := of_decide_eq_false hb | replace hb := bne_t hb | replace hb := bne_f hb | skip); all_goals (try (exfalso; omega)))
      | (apply aw_cond; exact rfl; all_goals intro hb; all_goals (try simp only [hb]); all_goals (first | replace hb := of_decide_eq_true hb | replace hb := of_decide_eq_false hb | replace hb := bne_t hb | replace hb := bne_f hb | skip); all_goals (try (exfalso; omega))))
    all_goals first
      | (exfalso; omega)
      | (apply ret1; exact rfl; exact rfl)
      | skip
end Go.Proofs.Ytiefkpfamkkapaa
