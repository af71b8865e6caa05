/- The document's answer on books, more: Levels. Conditions stand in each statement. -/
import Derived.Test.YtiefkpfamkkapaaRef14c
set_option linter.unusedSimpArgs false
set_option linter.unusedVariables false
namespace Go.Proofs.Ytiefkpfamkkapaa
open Go Go.Sl
attribute [local irreducible] AW ES EP Ld RetQ
set_option maxRecDepth 100000

set_option maxHeartbeats 4000000 in
theorem ref14_Levels (W : World) (h : List Chunk) (p : Nat) (A : Option Addr) (c : Nat) (l : List Order) (s : Int) (m1 : Chunk.blk p 47 [.slice A l.length c] ∈ h) (m2 : Chunk.own A l.length c 29 6 (l.flatMap Order.enc) ∈ h) (hb : l.length ≤ 1000000) (hq : ∀ o ∈ l, 1 ≤ o.left ∧ o.left ≤ 1000000) :
    FSpec Try.prog W 43 [.pointer (some ⟨p, 0, none⟩), .int .i64 s] h
      (fun v h' => ∃ A' c', v = .slice A' (levelsO (sideO s l)).length c' ∧ h' = .own A' (levelsO (sideO s l)).length c' 35 2 ((levelsO (sideO s l)).flatMap Lvl.enc) :: h ∧ OwnF A' (levelsO (sideO s l)).length c' 2 ((levelsO (sideO s l)).flatMap Lvl.enc)) := by
  refine FSpec.dropF ?_
  refine spec_body Try.func43 rfl rfl Try.results43 Try.ntmps43 rfl rfl ?_
  have hside := ref14_Side W h p A c l s m1 m2 hb
  have hsl := sideO_len s l
  have hsq : ∀ o ∈ sideO s l, 1 ≤ o.left ∧ o.left ≤ 1000000 := fun o ho => hq o (sideO_side ho).1
  generalize sideO s l = sl at hside hsl hsq
  repeat' (first
    | apply aw_seq | apply aw_region | apply aw_ret | apply aw_skip | apply aw_exit | apply aw_block | apply es_nil
    | (apply es_pure hT; (iterate 4 exact rfl)) | (apply es_skip; (iterate 3 exact rfl)) | (apply es_skip0; (iterate 2 exact rfl))
    | (apply es_i64 hT; (iterate 4 exact rfl); (iterate 2 omega))
    | (apply aw_draw [] [] hmix; decide +kernel)
    | (apply es_call (hs := hside); (iterate 7 exact rfl); rintro _ _ ⟨AS, cS, rfl, rfl, hfS⟩)
    | (apply es_load; (iterate 5 exact rfl); first | exact ld_blk hT rfl rfl mem0 rfl rfl | exact ld_all hT rfl rfl mem0 rfl)
    | (apply es_load; (iterate 5 exact rfl); first | exact ld_blk hT rfl rfl mem1 rfl rfl | exact ld_all hT rfl rfl mem1 rfl)
    | (apply es_load; (iterate 5 exact rfl); first | exact ld_blk hT rfl rfl mem2 rfl rfl | exact ld_all hT rfl rfl mem2 rfl)
    | (apply es_box; (iterate 5 exact rfl); intro _) | (apply es_alloc hT; (iterate 5 exact rfl); intro _)
    | (apply aw_condT; (iterate 2 exact rfl)) | (apply aw_condF; (iterate 2 exact rfl))
    | (apply es_case; exact rfl; all_goals intro hb; all_goals (try simp only [hb]); all_goals (first | replace hb := of_decide_eq_true hb | replace hb := of_decide_eq_false hb | replace hb := bne_t hb | replace hb := bne_f hb | skip); all_goals (try (exfalso; omega)))
    | (apply aw_cond; exact rfl; all_goals intro hb; all_goals (try simp only [hb]); all_goals (first | replace hb := of_decide_eq_true hb | replace hb := of_decide_eq_false hb | replace hb := bne_t hb | replace hb := bne_f hb | skip); all_goals (try (exfalso; omega))))
  refine aw_conv (fun w hw => ⟨_, hw.own_nil 35 2, ?_⟩)
  have hll : ∀ k, k ≤ sl.length → (levelsO (sl.take k)).length ≤ k := by
    intro k
    induction k with
    | zero => intro _; simp [levelsO]
    | succ k ih =>
      intro hk
      obtain ⟨x, hx⟩ : ∃ x, sl[k]? = some x := ⟨sl[k]'(by omega), List.getElem?_eq_getElem (by omega)⟩
      rw [List.take_add_one, hx]
      have := addLv_len (levelsO (sl.take k)) x
      have := ih (by omega)
      rw [show (some x).toList = [x] from rfl, levelsO_add]; omega
  refine aw_loop (α := Nat × Option Addr × Nat) (E := fun x => [(5, .slice AS sl.length cS), (6, .slice x.2.1 (levelsO (sl.take x.1)).length x.2.2), (7, .int .i64 x.1)])
    (H := fun x => .own x.2.1 (levelsO (sl.take x.1)).length x.2.2 35 2 ((levelsO (sl.take x.1)).flatMap Lvl.enc) :: .own AS sl.length cS 29 6 (sl.flatMap Order.enc) :: h) (μ := fun x => sl.length - x.1)
    (S := fun x => x.1 ≤ sl.length) (0, none, 0) (J := []) (Nat.zero_le _) ⟨rfl, rfl, rfl, trivial⟩ (List.Perm.refl _) ?_
  rintro ⟨k, A5, c5⟩ hk
  dsimp only at hk ⊢
  refine aw_own mem0 (fun hf5 => ?_)
  have hmk := hll k hk
  by_cases hlt : k < sl.length
  · obtain ⟨x, hx⟩ : ∃ x, sl[k]? = some x := ⟨sl[k]'(by omega), List.getElem?_eq_getElem (by omega)⟩
    have hx2 : sl[(k : Int).toNat]? = some x := by simpa using hx
    have hA := hfS.some_ (by omega)
    have hd1 : decide ((k : Int) < (sl.length : Int)) = true := by simp; omega
    have hstep : levelsO (sl.take (k + 1)) = addLv (levelsO (sl.take k)) x := by
      rw [List.take_add_one, hx, show (some x).toList = [x] from rfl, levelsO_add]
    have hqx := hsq x (List.mem_of_getElem? hx)
    have hqv := levels_pos (o := sl.take k) (fun o ho => hsq o (List.mem_of_mem_take ho)) (by simp; omega)
    have htl : ((sl.take k).length : Int) ≤ 1000000 := by simp; omega
    generalize hvl : levelsO (sl.take k) = v at hf5 hmk hstep hqv ⊢
    have hlst : v.length ≠ 0 → ∃ y, v[v.length - 1]? = some y := fun h => ⟨v[v.length - 1]'(by omega), List.getElem?_eq_getElem (by omega)⟩
    by_cases hsame : ∃ y, v[v.length - 1]? = some y ∧ y.price = x.price
    · obtain ⟨y, hy, hpp⟩ := hsame
      have h0 : v.length ≠ 0 := fun h0 => by have := (List.getElem?_eq_some_iff.1 hy).1; omega
      have hy2 : v[((v.length : Int) - 1).toNat]? = some y := by rw [show ((v.length : Int) - 1).toNat = v.length - 1 by omega]; exact hy
      have hA5 := hf5.some_ (by omega)
      have hd2 : ((v.length : Int) == 0) = false := beq_eq_false_iff_ne.2 (by omega)
      have hqy := hqv y (List.mem_of_getElem? hy)
      have hadd := addLv_last (o := x) hy hpp
      have hlay : lay (v.flatMap Lvl.enc) (((v.length : Int) - 1).toNat * 2 + 1) [.int .i64 (y.qty + x.left)] = (addLv v x).flatMap Lvl.enc := by
        rw [hadd, show ((v.length : Int) - 1).toNat = v.length - 1 by omega, flat_lay Lvl.enc_len (x' := ⟨y.price, y.qty + x.left⟩) hy (Nat.le_of_ble_eq_true rfl) rfl]
      have hlen : (addLv v x).length = v.length := by rw [hadd]; simp
      repeat' (first
        | apply aw_seq | apply aw_region | apply aw_ret | apply aw_skip | apply aw_exit | apply aw_block | apply es_nil
        | (apply es_pure hT; (iterate 4 exact rfl)) | (apply es_skip; (iterate 3 exact rfl)) | (apply es_skip0; (iterate 2 exact rfl))
        | (apply es_i64 hT; (iterate 4 exact rfl); (iterate 2 omega))
        | (apply aw_draw [] [] hmix; decide +kernel)
        | (apply es_idx hT; (iterate 8 exact rfl); (iterate 2 omega); first | exact hA | exact hA5)
        | (apply es_load; (iterate 5 exact rfl); first | exact ld_fld hT rfl rfl (hfS.reads mem1) Order.enc_len (adr_add _ _ _) hx2 (by decide) rfl | exact ld_fld hT rfl rfl (hf5.reads mem0) Lvl.enc_len (adr_add _ _ _) hy2 (by decide) rfl)
        | (apply es_storeRow hT; (iterate 6 exact rfl); exact sel0; exact adr_add _ _ _; exact rfl; exact rfl; (show (((v.length : Int) - 1).toNat * 2 + 1) + 1 ≤ v.length * 2; omega); omega)
        | (apply es_load; (iterate 5 exact rfl); first | exact ld_blk hT rfl rfl mem0 rfl rfl | exact ld_all hT rfl rfl mem0 rfl)
        | (apply es_load; (iterate 5 exact rfl); first | exact ld_blk hT rfl rfl mem1 rfl rfl | exact ld_all hT rfl rfl mem1 rfl)
        | (apply es_load; (iterate 5 exact rfl); first | exact ld_blk hT rfl rfl mem2 rfl rfl | exact ld_all hT rfl rfl mem2 rfl)
        | (apply es_load; (iterate 5 exact rfl); first | exact ld_blk hT rfl rfl mem0 rfl rfl | exact ld_all hT rfl rfl mem0 rfl)
        | (apply es_load; (iterate 5 exact rfl); first | exact ld_blk hT rfl rfl (List.mem_cons_of_mem _ mem0) rfl rfl | exact ld_all hT rfl rfl (List.mem_cons_of_mem _ mem0) rfl)
        | (apply es_load; (iterate 5 exact rfl); first | exact ld_blk hT rfl rfl mem1 rfl rfl | exact ld_all hT rfl rfl mem1 rfl)
        | (apply es_load; (iterate 5 exact rfl); first | exact ld_blk hT rfl rfl (List.mem_cons_of_mem _ mem1) rfl rfl | exact ld_all hT rfl rfl (List.mem_cons_of_mem _ mem1) rfl)
        | (apply es_box; (iterate 5 exact rfl); intro _) | (apply es_alloc hT; (iterate 5 exact rfl); intro _)
        | (apply aw_condT; (iterate 2 exact rfl)) | (apply aw_condF; (iterate 2 exact rfl))
        | (apply es_case; exact rfl; all_goals intro hb; all_goals (try simp only [hb]); all_goals (first | replace hb := of_decide_eq_true hb | replace hb := of_decide_eq_false hb | replace hb := bne_t hb | replace hb := bne_f hb | skip); all_goals (try (exfalso; omega)))
        | (apply aw_cond; exact rfl; all_goals intro hb; all_goals (try simp only [hb]); all_goals (first | replace hb := of_decide_eq_true hb | replace hb := of_decide_eq_false hb | replace hb := bne_t hb | replace hb := bne_f hb | skip); all_goals (try (exfalso; omega))))
      all_goals first
        | (exfalso; omega)
        | (refine loopq_end (k + 1, A5, c5) (by dsimp only; omega) (by dsimp only; omega) ⟨rfl, by dsimp only; rw [hstep, hlen]; rfl, rfl, trivial⟩ ?_
           dsimp only
           rw [hstep, hlen, ← hlay]
           apply dt_cons; (first | exact sel0 | exact sel1 | exact selS sel1 | exact selS (selS sel1) | exact selS (selS (selS sel1)) | exact selS (selS (selS (selS sel1))) | exact selS (selS (selS (selS (selS sel1)))) | exact selS (selS (selS (selS (selS (selS sel1))))))
           apply dt_cons; (first | exact sel0 | exact sel1 | exact selS sel1 | exact selS (selS sel1) | exact selS (selS (selS sel1)) | exact selS (selS (selS (selS sel1))) | exact selS (selS (selS (selS (selS sel1)))) | exact selS (selS (selS (selS (selS (selS sel1))))))
           (repeat (first | exact dt_end | apply dt_skip)))
        | skip
    · have hadd : addLv v x = v ++ [⟨x.price, x.left⟩] := addLv_new (fun z hz e => hsame ⟨z, hz, e⟩)
      have hrd : ∀ h A c, OwnF A (v.length + 1) c 2 (v.flatMap Lvl.enc ++ Lvl.enc ⟨x.price, 0⟩) → Chunk.own A (v.length + 1) c 35 2 (v.flatMap Lvl.enc ++ Lvl.enc ⟨x.price, 0⟩) ∈ h → Reads W h A (v.length + 1) 2 ((v ++ [(⟨x.price, 0⟩ : Lvl)]).flatMap Lvl.enc) := fun h A c hf hm => by
        have := hf.reads (W := W) hm
        rw [show (v ++ [(⟨x.price, 0⟩ : Lvl)]).flatMap Lvl.enc = v.flatMap Lvl.enc ++ Lvl.enc ⟨x.price, 0⟩ by simp]; exact this
      obtain ⟨z, hz⟩ : ∃ z : Lvl, z = ⟨x.price, 0⟩ := ⟨_, rfl⟩
      have hzq : z.qty = 0 := by rw [hz]
      have hy3 : (v ++ [(⟨x.price, 0⟩ : Lvl)])[((v.length : Int) + 1 - 1).toNat]? = some z := by
        rw [hz, show ((v.length : Int) + 1 - 1).toNat = v.length by omega]; simp
      have hlay : lay (v.flatMap Lvl.enc ++ Lvl.enc ⟨x.price, 0⟩) (((v.length : Int) + 1 - 1).toNat * 2 + 1) [.int .i64 (z.qty + x.left)] = (addLv v x).flatMap Lvl.enc := by
        rw [hzq]
        have e1 : v.flatMap Lvl.enc ++ Lvl.enc ⟨x.price, 0⟩ = (v ++ [(⟨x.price, 0⟩ : Lvl)]).flatMap Lvl.enc := by simp
        have e2 : (v ++ [(⟨x.price, 0⟩ : Lvl)])[v.length]? = some ⟨x.price, 0⟩ := by simp
        rw [e1, hadd, show ((v.length : Int) + 1 - 1).toNat = v.length by omega, flat_lay Lvl.enc_len (x' := (⟨x.price, 0 + x.left⟩ : Lvl)) e2 (Nat.le_of_ble_eq_true rfl) rfl, Int.zero_add]
        congr 1
        rw [List.set_append_right _ _ (Nat.le_refl _)]; simp
      have hlen : (addLv v x).length = v.length + 1 := by rw [hadd]; simp
      by_cases h0 : v.length = 0
      · have hd2 : ((v.length : Int) == 0) = true := beq_iff_eq.2 (by omega)
        have hA5 := hA
        have hy2 : ([⟨0, 0⟩] : List Lvl)[0]? = some ⟨0, 0⟩ := rfl
        repeat' (first
          | ((fail_if_success (have q := hf2)); refine aw_own (n := v.length + 1) mem0 (fun hf2 => ?_))
          | apply aw_seq | apply aw_region | apply aw_ret | apply aw_skip | apply aw_exit | apply aw_block | apply es_nil
          | (apply es_pure hT; (iterate 4 exact rfl)) | (apply es_skip; (iterate 3 exact rfl)) | (apply es_skip0; (iterate 2 exact rfl))
          | (apply es_i64 hT; (iterate 4 exact rfl); (iterate 2 omega))
          | (apply aw_draw [] [] hmix; decide +kernel)
          | (apply es_idx hT; (iterate 8 exact rfl); (iterate 2 omega); first | exact hA | exact hA5 | exact hf2.some_ (by omega))
          | (apply es_load; (iterate 5 exact rfl); first | exact ld_fld hT rfl rfl (hfS.reads mem1) Order.enc_len (adr_add _ _ _) hx2 (by decide) rfl | exact ld_fld hT rfl rfl (hfS.reads mem2) Order.enc_len (adr_add _ _ _) hx2 (by decide) rfl | exact ld_fld hT rfl rfl (hrd _ _ _ hf2 mem0) Lvl.enc_len (adr_add _ _ _) hy3 (by decide) rfl | exact ld_fld hT rfl rfl (hf5.reads mem0) Lvl.enc_len (adr_add _ _ _) hy2 (by decide) rfl)
          | (apply es_build hT; (iterate 4 exact rfl))
          | (apply es_buildSlice hT; (iterate 12 exact rfl); intro g)
          | (apply es_append hT; (iterate 10 exact rfl); (first | exact sel0 | exact sel1 | exact selS sel1 | exact selS (selS sel1) | exact selS (selS (selS sel1)) | exact selS (selS (selS (selS sel1))) | exact selS (selS (selS (selS (selS sel1)))) | exact selS (selS (selS (selS (selS (selS sel1)))))); exact Reads.own mem0 rfl (Lvl.enc_one ⟨x.price, 0⟩); omega; (show (_ : Nat) * 16 ≤ _; omega); intro A' c')
          | (apply es_storeRow hT; (iterate 6 exact rfl); exact sel0; exact adr_add _ _ _; exact rfl; exact rfl; (show (((v.length : Int) + 1 - 1).toNat * 2 + 1) + 1 ≤ (v.length + 1) * 2; omega); omega)
          | (apply es_load; (iterate 5 exact rfl); first | exact ld_blk hT rfl rfl mem0 rfl rfl | exact ld_all hT rfl rfl mem0 rfl)
          | (apply es_load; (iterate 5 exact rfl); first | exact ld_blk hT rfl rfl mem1 rfl rfl | exact ld_all hT rfl rfl mem1 rfl)
          | (apply es_load; (iterate 5 exact rfl); first | exact ld_blk hT rfl rfl mem2 rfl rfl | exact ld_all hT rfl rfl mem2 rfl)
          | (apply es_load; (iterate 5 exact rfl); first | exact ld_blk hT rfl rfl mem0 rfl rfl | exact ld_all hT rfl rfl mem0 rfl)
          | (apply es_load; (iterate 5 exact rfl); first | exact ld_blk hT rfl rfl (List.mem_cons_of_mem _ mem0) rfl rfl | exact ld_all hT rfl rfl (List.mem_cons_of_mem _ mem0) rfl)
          | (apply es_load; (iterate 5 exact rfl); first | exact ld_blk hT rfl rfl mem1 rfl rfl | exact ld_all hT rfl rfl mem1 rfl)
          | (apply es_load; (iterate 5 exact rfl); first | exact ld_blk hT rfl rfl (List.mem_cons_of_mem _ mem1) rfl rfl | exact ld_all hT rfl rfl (List.mem_cons_of_mem _ mem1) rfl)
          | (apply es_box; (iterate 5 exact rfl); intro _) | (apply es_alloc hT; (iterate 5 exact rfl); intro _)
          | (apply aw_condT; (iterate 2 exact rfl)) | (apply aw_condF; (iterate 2 exact rfl))
          | (apply es_case; exact rfl; all_goals intro hb; all_goals (try simp only [hb]); all_goals (first | replace hb := of_decide_eq_true hb | replace hb := of_decide_eq_false hb | replace hb := bne_t hb | replace hb := bne_f hb | skip); all_goals (try (exfalso; omega)))
          | (apply aw_cond; exact rfl; all_goals intro hb; all_goals (try simp only [hb]); all_goals (first | replace hb := of_decide_eq_true hb | replace hb := of_decide_eq_false hb | replace hb := bne_t hb | replace hb := bne_f hb | skip); all_goals (try (exfalso; omega))))
        all_goals first
          | (exfalso; omega)
          | (refine loopq_end (k + 1, A', c') (by dsimp only; omega) (by dsimp only; omega) ⟨rfl, by dsimp only; rw [hstep, hlen]; rfl, rfl, trivial⟩ ?_
             dsimp only
             rw [hstep, hlen, ← hlay]
             apply dt_cons; (first | exact sel0 | exact sel1 | exact selS sel1 | exact selS (selS sel1) | exact selS (selS (selS sel1)) | exact selS (selS (selS (selS sel1))) | exact selS (selS (selS (selS (selS sel1)))) | exact selS (selS (selS (selS (selS (selS sel1))))))
             apply dt_cons; (first | exact sel0 | exact sel1 | exact selS sel1 | exact selS (selS sel1) | exact selS (selS (selS sel1)) | exact selS (selS (selS (selS sel1))) | exact selS (selS (selS (selS (selS sel1)))) | exact selS (selS (selS (selS (selS (selS sel1))))))
             (repeat (first | exact dt_end | apply dt_skip)))
          | skip
      · obtain ⟨y, hy⟩ := hlst h0
        have hne : ¬ y.price = x.price := fun e => hsame ⟨y, hy, e⟩
        have hy2 : v[((v.length : Int) - 1).toNat]? = some y := by rw [show ((v.length : Int) - 1).toNat = v.length - 1 by omega]; exact hy
        have hA5 := hf5.some_ (by omega)
        have hd2 : ((v.length : Int) == 0) = false := beq_eq_false_iff_ne.2 (by omega)
        repeat' (first
          | ((fail_if_success (have q := hf2)); refine aw_own (n := v.length + 1) mem0 (fun hf2 => ?_))
          | apply aw_seq | apply aw_region | apply aw_ret | apply aw_skip | apply aw_exit | apply aw_block | apply es_nil
          | (apply es_pure hT; (iterate 4 exact rfl)) | (apply es_skip; (iterate 3 exact rfl)) | (apply es_skip0; (iterate 2 exact rfl))
          | (apply es_i64 hT; (iterate 4 exact rfl); (iterate 2 omega))
          | (apply aw_draw [] [] hmix; decide +kernel)
          | (apply es_idx hT; (iterate 8 exact rfl); (iterate 2 omega); first | exact hA | exact hA5 | exact hf2.some_ (by omega))
          | (apply es_load; (iterate 5 exact rfl); first | exact ld_fld hT rfl rfl (hfS.reads mem1) Order.enc_len (adr_add _ _ _) hx2 (by decide) rfl | exact ld_fld hT rfl rfl (hfS.reads mem2) Order.enc_len (adr_add _ _ _) hx2 (by decide) rfl | exact ld_fld hT rfl rfl (hrd _ _ _ hf2 mem0) Lvl.enc_len (adr_add _ _ _) hy3 (by decide) rfl | exact ld_fld hT rfl rfl (hf5.reads mem0) Lvl.enc_len (adr_add _ _ _) hy2 (by decide) rfl)
          | (apply es_build hT; (iterate 4 exact rfl))
          | (apply es_buildSlice hT; (iterate 12 exact rfl); intro g)
          | (apply es_append hT; (iterate 10 exact rfl); (first | exact sel0 | exact sel1 | exact selS sel1 | exact selS (selS sel1) | exact selS (selS (selS sel1)) | exact selS (selS (selS (selS sel1))) | exact selS (selS (selS (selS (selS sel1)))) | exact selS (selS (selS (selS (selS (selS sel1)))))); exact Reads.own mem0 rfl (Lvl.enc_one ⟨x.price, 0⟩); omega; (show (_ : Nat) * 16 ≤ _; omega); intro A' c')
          | (apply es_storeRow hT; (iterate 6 exact rfl); exact sel0; exact adr_add _ _ _; exact rfl; exact rfl; (show (((v.length : Int) + 1 - 1).toNat * 2 + 1) + 1 ≤ (v.length + 1) * 2; omega); omega)
          | (apply es_load; (iterate 5 exact rfl); first | exact ld_blk hT rfl rfl mem0 rfl rfl | exact ld_all hT rfl rfl mem0 rfl)
          | (apply es_load; (iterate 5 exact rfl); first | exact ld_blk hT rfl rfl mem1 rfl rfl | exact ld_all hT rfl rfl mem1 rfl)
          | (apply es_load; (iterate 5 exact rfl); first | exact ld_blk hT rfl rfl mem2 rfl rfl | exact ld_all hT rfl rfl mem2 rfl)
          | (apply es_load; (iterate 5 exact rfl); first | exact ld_blk hT rfl rfl mem0 rfl rfl | exact ld_all hT rfl rfl mem0 rfl)
          | (apply es_load; (iterate 5 exact rfl); first | exact ld_blk hT rfl rfl (List.mem_cons_of_mem _ mem0) rfl rfl | exact ld_all hT rfl rfl (List.mem_cons_of_mem _ mem0) rfl)
          | (apply es_load; (iterate 5 exact rfl); first | exact ld_blk hT rfl rfl mem1 rfl rfl | exact ld_all hT rfl rfl mem1 rfl)
          | (apply es_load; (iterate 5 exact rfl); first | exact ld_blk hT rfl rfl (List.mem_cons_of_mem _ mem1) rfl rfl | exact ld_all hT rfl rfl (List.mem_cons_of_mem _ mem1) rfl)
          | (apply es_box; (iterate 5 exact rfl); intro _) | (apply es_alloc hT; (iterate 5 exact rfl); intro _)
          | (apply aw_condT; (iterate 2 exact rfl)) | (apply aw_condF; (iterate 2 exact rfl))
          | (apply es_case; exact rfl; all_goals intro hb; all_goals (try simp only [hb]); all_goals (first | replace hb := of_decide_eq_true hb | replace hb := of_decide_eq_false hb | replace hb := bne_t hb | replace hb := bne_f hb | skip); all_goals (try (exfalso; omega)))
          | (apply aw_cond; exact rfl; all_goals intro hb; all_goals (try simp only [hb]); all_goals (first | replace hb := of_decide_eq_true hb | replace hb := of_decide_eq_false hb | replace hb := bne_t hb | replace hb := bne_f hb | skip); all_goals (try (exfalso; omega))))
        all_goals first
          | (exfalso; omega)
          | (refine loopq_end (k + 1, A', c') (by dsimp only; omega) (by dsimp only; omega) ⟨rfl, by dsimp only; rw [hstep, hlen]; rfl, rfl, trivial⟩ ?_
             dsimp only
             rw [hstep, hlen, ← hlay]
             apply dt_cons; (first | exact sel0 | exact sel1 | exact selS sel1 | exact selS (selS sel1) | exact selS (selS (selS sel1)) | exact selS (selS (selS (selS sel1))) | exact selS (selS (selS (selS (selS sel1)))) | exact selS (selS (selS (selS (selS (selS sel1))))))
             apply dt_cons; (first | exact sel0 | exact sel1 | exact selS sel1 | exact selS (selS sel1) | exact selS (selS (selS sel1)) | exact selS (selS (selS (selS sel1))) | exact selS (selS (selS (selS (selS sel1)))) | exact selS (selS (selS (selS (selS (selS sel1))))))
             (repeat (first | exact dt_end | apply dt_skip)))
          | skip
  · obtain rfl : k = sl.length := by omega
    have hd1 : decide ((sl.length : Int) < (sl.length : Int)) = false := by simp
    rw [List.take_length] at hf5 ⊢
    repeat' (first
      | apply aw_seq | apply aw_region | apply aw_ret | apply aw_skip | apply aw_exit | apply aw_block | apply es_nil
      | (apply es_pure hT; (iterate 4 exact rfl)) | (apply es_skip; (iterate 3 exact rfl)) | (apply es_skip0; (iterate 2 exact rfl))
      | (apply es_i64 hT; (iterate 4 exact rfl); (iterate 2 omega))
      | (apply aw_draw [] [] hmix; decide +kernel)
      | (apply es_load; (iterate 5 exact rfl); first | exact ld_blk hT rfl rfl mem0 rfl rfl | exact ld_all hT rfl rfl mem0 rfl)
      | (apply es_load; (iterate 5 exact rfl); first | exact ld_blk hT rfl rfl mem1 rfl rfl | exact ld_all hT rfl rfl mem1 rfl)
      | (apply es_load; (iterate 5 exact rfl); first | exact ld_blk hT rfl rfl mem2 rfl rfl | exact ld_all hT rfl rfl mem2 rfl)
      | (apply es_box; (iterate 5 exact rfl); intro _) | (apply es_alloc hT; (iterate 5 exact rfl); intro _)
      | (apply aw_condT; (iterate 2 exact rfl)) | (apply aw_condF; (iterate 2 exact rfl))
      | (apply es_case; exact rfl; all_goals intro hb; all_goals (try simp only [hb]); all_goals (first | replace hb := of_decide_eq_true hb | replace hb := of_decide_eq_false hb | replace hb := bne_t hb | replace hb := bne_f hb | skip); all_goals (try (exfalso; omega)))
      | (apply aw_cond; exact rfl; all_goals intro hb; all_goals (try simp only [hb]); all_goals (first | replace hb := of_decide_eq_true hb | replace hb := of_decide_eq_false hb | replace hb := bne_t hb | replace hb := bne_f hb | skip); all_goals (try (exfalso; omega))))
    all_goals first
      | (exfalso; omega)
      | (apply ret1; exact rfl
         exact ⟨.own A5 (levelsO sl).length c5 35 2 ((levelsO sl).flatMap Lvl.enc) :: h, by apply dt_cons; (first | exact sel0 | exact sel1 | exact selS sel1 | exact selS (selS sel1) | exact selS (selS (selS sel1)) | exact selS (selS (selS (selS sel1))) | exact selS (selS (selS (selS (selS sel1)))) | exact selS (selS (selS (selS (selS (selS sel1)))))); (repeat (first | exact dt_end | apply dt_skip)), fun w hw => ⟨A5, c5, rfl, rfl, hf5⟩⟩)
end Go.Proofs.Ytiefkpfamkkapaa
