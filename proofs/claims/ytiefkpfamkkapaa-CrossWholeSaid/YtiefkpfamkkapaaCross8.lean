/- The document's answer on orders that meet (consolsref15): what an order does that comes. Conditions stand in each statement. -/
import Derived.Test.YtiefkpfamkkapaaCross7
set_option linter.unusedSimpArgs false
set_option linter.unusedVariables false
namespace Go.Proofs.Ytiefkpfamkkapaa
open Go Go.Sl
attribute [local irreducible] AW ES EP Ld RetQ
set_option maxRecDepth 100000

theorem seqblk {P : Program} {W : World} {N id : Nat} {y : Code} {Q : Exit → Env → List Chunk → Prop} {env : Env} {h : List Chunk} (hq : Q .normal env h) : SeqQ P W N y (BlockQ id Q) (.exit id) env h := by
  show (if id = id then Q .normal env h else Q (.exit id) env h)
  rw [if_pos rfl]; exact hq
set_option maxHeartbeats 4000000 in
theorem ref15_Do (W : World) (F : List Chunk) (p : Nat) (A : Option Addr) (c : Nat) (l : List Order) (o : Order) (how : Int) (hB : BookB l) :
    FSpec Try.prog W 67 [.pointer (some ⟨p, 0, none⟩), .agg o.enc.toArray, .int .i64 how] (refB p A c l F)
      (fun v h' => ∃ Af cf Ag cg A' c', v = .tuple #[.slice Af (doV how o l).fills.length cf, .slice Ag (doV how o l).gones.length cg, .int .i64 (doV how o l).left, .int .i64 (doV how o l).err] ∧
        h' = .own Af (doV how o l).fills.length cf 95 7 ((doV how o l).fills.flatMap FillR.enc) :: .own Ag (doV how o l).gones.length cg 103 3 ((doV how o l).gones.flatMap GoneR.enc) :: refB p A' c' (doV how o l).bk F ∧
        OwnF Af (doV how o l).fills.length cf 7 ((doV how o l).fills.flatMap FillR.enc) ∧ OwnF Ag (doV how o l).gones.length cg 3 ((doV how o l).gones.flatMap GoneR.enc)) := by
  refine FSpec.dropF ?_
  have hW' := fun h m1 m2 => (ref15_May W p A c l o how hB).mono (h' := h) (memPairB m1 m2)
  refine spec_body Try.func67 rfl rfl Try.results67 Try.ntmps67 rfl rfl ?_
  by_cases hw0 : wrongV how o l = 0
  · rw [hw0] at hW'
    have hnb : newB how o l = true := by
      cases h : newB how o l
      · unfold wrongV at hw0; rw [if_pos h] at hw0; omega
      · rfl
    have hol := newB_left hnb
    have hsd := newB_side hnb
    have hml := meets_len how o l
    have hbl := hB.len
    have hlf : ∀ x ∈ meetsO how o l, 1 ≤ x.left ∧ x.left ≤ 1000000 := fun x hx => hB.left x (meets_mem hx).1
    have hrun := run_meets (how := how) hsd hB
    generalize hms : meetsO how o l = ms at hml hlf hrun
    repeat' (first
      | apply aw_seq | apply aw_region | apply aw_ret | apply aw_skip | apply aw_exit | apply aw_block | apply es_nil
      | (apply es_pure hT; (iterate 4 exact rfl)) | (apply es_skip; (iterate 3 exact rfl)) | (apply es_skip0; (iterate 2 exact rfl))
      | (apply es_i64 hT; (iterate 4 exact rfl); (iterate 2 (first | omega | (dsimp only; omega))))
      | (apply aw_draw [] [] hmix; decide +kernel)
      | (apply es_box; (iterate 5 exact rfl); intro g4)
      | (apply es_callQ (hs := (hW' _ (by (repeat (first | exact List.mem_cons_self | apply List.mem_cons_of_mem))) (by (repeat (first | exact List.mem_cons_self | apply List.mem_cons_of_mem))))); (iterate 7 exact rfl))
      | (apply es_load; (iterate 5 exact rfl); first | (apply ld_blk hT; exact rfl; exact rfl; (repeat (first | exact List.mem_cons_self | apply List.mem_cons_of_mem)); exact rfl; exact rfl) | (apply ld_all hT; exact rfl; exact rfl; (repeat (first | exact List.mem_cons_self | apply List.mem_cons_of_mem)); exact rfl))
      | (apply es_box; (iterate 5 exact rfl); intro _) | (apply es_alloc hT; (iterate 5 exact rfl); intro _)
      | (apply aw_condT; (iterate 2 exact rfl)) | (apply aw_condF; (iterate 2 exact rfl))
      | (apply es_case; exact rfl; all_goals intro hb; all_goals (try dsimp only at hb); all_goals (try simp only [hb]); all_goals (first | replace hb := of_decide_eq_true hb | replace hb := of_decide_eq_false hb | replace hb := bne_t hb | replace hb := bne_f hb | replace hb := eq_of_beq hb | replace hb := ne_of_beq_false hb | skip); all_goals (try (exfalso; omega)))
      | (apply aw_cond; exact rfl; all_goals intro hb; all_goals (try dsimp only at hb); all_goals (try simp only [hb]); all_goals (first | replace hb := of_decide_eq_true hb | replace hb := of_decide_eq_false hb | replace hb := bne_t hb | replace hb := bne_f hb | replace hb := eq_of_beq hb | replace hb := ne_of_beq_false hb | skip); all_goals (try (exfalso; omega))))
    all_goals try (exfalso; omega)
    refine aw_conv (fun w hw => ⟨_, (hw.own_nil 103 3).own_nil 95 7, ?_⟩)
    refine aw_loopD (α := Nat × Option Addr × Nat × Option Addr × Nat × Option Addr × Nat) (E := fun x => [(0, .pointer (some ⟨p, 0, none⟩)), (2, .int .i64 how), (4, .pointer (some ⟨g4, 0, none⟩)), (11, .slice x.2.1 (runX o l (ms.take x.1)).fills.length x.2.2.1), (12, .slice x.2.2.2.1 (runX o l (ms.take x.1)).gones.length x.2.2.2.2.1)])
      (H := fun x => .own x.2.1 (runX o l (ms.take x.1)).fills.length x.2.2.1 95 7 ((runX o l (ms.take x.1)).fills.flatMap FillR.enc) :: .own x.2.2.2.1 (runX o l (ms.take x.1)).gones.length x.2.2.2.2.1 103 3 ((runX o l (ms.take x.1)).gones.flatMap GoneR.enc) :: refB p x.2.2.2.2.2.1 x.2.2.2.2.2.2 (runX o l (ms.take x.1)).bk (.blk g4 29 (Order.enc { o with left := (runX o l (ms.take x.1)).left }) :: F))
      (μ := fun x => ms.length - x.1) (S := fun x => x.1 ≤ ms.length) (0, none, 0, none, 0, A, c) (Nat.zero_le _) ⟨rfl, rfl, rfl, rfl, rfl, trivial⟩ (by
        show DropTo _ (.own none 0 0 95 7 [] :: .own none 0 0 103 3 [] :: refB p A c l (.blk g4 29 o.enc :: F))
        (repeat (first | exact dt_end | (apply dt_cons; · (repeat (first | exact sel0 | apply selS))) | apply dt_skip))) ?_
    rintro ⟨k, Af, cf, Ag, cg, A1, c1⟩ hk
    dsimp only at hk ⊢
    have hfc := runX_facts (o := o) (l := l) (fun x hx => (hlf x hx).1) (by omega) k hk
    have hBs : BookB (runX o l (ms.take k)).bk := runX_B hB
    by_cases hz : (runX o l (ms.take k)).left = 0
    · have hsf : runX o l (ms.take k) = runX o l (meetsO how o l) := by rw [hms]; exact (runX_stop hz).symm
      generalize runX o l (ms.take k) = s at hfc hBs hz hsf ⊢
      have hrs : doV how o l = ⟨s.fills, s.gones, s.left, 0, restX how o s⟩ := by unfold doV; rw [if_pos hw0, ← hsf]
      rw [hrs]
      by_cases hst : staysB how = true ∧ s.left > 0
      · have hrx : restX how o s = addO { o with left := s.left } s.bk := by unfold restX; rw [if_pos hst]
        rw [hrx]
        have hst2 := hst.2
        have hhow : how = 0 ∨ how = 3 := by have := hst.1; simpa [staysB] using this
        have hadd :=  ref14_Add W (.own Af s.fills.length cf 95 7 (s.fills.flatMap FillR.enc) :: .own Ag s.gones.length cg 103 3 (s.gones.flatMap GoneR.enc) :: .blk g4 29 (Order.enc { o with left := s.left }) ::  F) p A1 c1 s.bk { o with left := s.left } hBs.le
        repeat' (first
          | apply aw_seq | apply aw_region | apply aw_ret | apply aw_skip | apply aw_exit | apply aw_block | apply es_nil
          | (apply es_pure hT; (iterate 4 exact rfl)) | (apply es_skip; (iterate 3 exact rfl)) | (apply es_skip0; (iterate 2 exact rfl))
          | (apply es_i64 hT; (iterate 4 exact rfl); (iterate 2 (first | omega | (dsimp only; omega))))
          | (apply es_call (hs := (FSpec.perm (hadd ) (by (repeat (first | exact List.Perm.refl _ | (apply permC; · (repeat (first | exact sel0 | apply selS)))))))); (iterate 7 exact rfl); rintro _ _ ⟨rfl, A9, c9, rfl⟩)
          | (apply aw_draw [] [] hmix; decide +kernel)
          | (apply es_store hT; (iterate 6 exact rfl); (repeat (first | exact sel0 | apply selS)); (iterate 3 exact rfl); exact Nat.le_of_ble_eq_true rfl)
          | (apply es_load; (iterate 5 exact rfl); first | (apply ld_blk hT; exact rfl; exact rfl; (repeat (first | exact List.mem_cons_self | apply List.mem_cons_of_mem)); exact rfl; exact rfl) | (apply ld_all hT; exact rfl; exact rfl; (repeat (first | exact List.mem_cons_self | apply List.mem_cons_of_mem)); exact rfl))
          | (apply es_box; (iterate 5 exact rfl); intro _) | (apply es_alloc hT; (iterate 5 exact rfl); intro _)
          | (apply aw_condT; (iterate 2 exact rfl)) | (apply aw_condF; (iterate 2 exact rfl))
          | (apply es_case; exact rfl; all_goals intro hb; all_goals (try dsimp only at hb); all_goals (try simp only [hb]); all_goals (first | replace hb := of_decide_eq_true hb | replace hb := of_decide_eq_false hb | replace hb := bne_t hb | replace hb := bne_f hb | replace hb := eq_of_beq hb | replace hb := ne_of_beq_false hb | skip); all_goals (try (exfalso; omega)))
          | (apply aw_cond; exact rfl; all_goals intro hb; all_goals (try dsimp only at hb); all_goals (try simp only [hb]); all_goals (first | replace hb := of_decide_eq_true hb | replace hb := of_decide_eq_false hb | replace hb := bne_t hb | replace hb := bne_f hb | replace hb := eq_of_beq hb | replace hb := ne_of_beq_false hb | skip); all_goals (try (exfalso; omega))))
        all_goals first
          | (exfalso; omega)
          | (apply ret4; exact rfl; exact rfl; exact rfl; exact rfl
             exact ⟨.own Af s.fills.length cf 95 7 (s.fills.flatMap FillR.enc) :: .own Ag s.gones.length cg 103 3 (s.gones.flatMap GoneR.enc) :: refB p A9 c9 (addO { o with left := s.left } s.bk) F, by (repeat (first | exact dt_end | (apply dt_cons; · (repeat (first | exact sel0 | apply selS))) | apply dt_skip)), fun w hw => ⟨Af, cf, Ag, cg, A9, c9, rfl, rfl, hw.ownF mem0, hw.ownF mem1⟩⟩)
          | skip
      · have hrx : restX how o s = s.bk := by unfold restX; rw [if_neg hst]
        rw [hrx]
        have hno : ¬ ((how = 0 ∨ how = 3) ∧ s.left > 0) := fun h => hst ⟨by simp [staysB, h.1], h.2⟩
        repeat' (first
          | apply aw_seq | apply aw_region | apply aw_ret | apply aw_skip | apply aw_exit | apply aw_block | apply es_nil
          | (apply es_pure hT; (iterate 4 exact rfl)) | (apply es_skip; (iterate 3 exact rfl)) | (apply es_skip0; (iterate 2 exact rfl))
          | (apply es_i64 hT; (iterate 4 exact rfl); (iterate 2 (first | omega | (dsimp only; omega))))
          | (apply aw_draw [] [] hmix; decide +kernel)
          | (apply es_store hT; (iterate 6 exact rfl); (repeat (first | exact sel0 | apply selS)); (iterate 3 exact rfl); exact Nat.le_of_ble_eq_true rfl)
          | (apply es_load; (iterate 5 exact rfl); first | (apply ld_blk hT; exact rfl; exact rfl; (repeat (first | exact List.mem_cons_self | apply List.mem_cons_of_mem)); exact rfl; exact rfl) | (apply ld_all hT; exact rfl; exact rfl; (repeat (first | exact List.mem_cons_self | apply List.mem_cons_of_mem)); exact rfl))
          | (apply es_box; (iterate 5 exact rfl); intro _) | (apply es_alloc hT; (iterate 5 exact rfl); intro _)
          | (apply aw_condT; (iterate 2 exact rfl)) | (apply aw_condF; (iterate 2 exact rfl))
          | (apply es_case; exact rfl; all_goals intro hb; all_goals (try dsimp only at hb); all_goals (try simp only [hb]); all_goals (first | replace hb := of_decide_eq_true hb | replace hb := of_decide_eq_false hb | replace hb := bne_t hb | replace hb := bne_f hb | replace hb := eq_of_beq hb | replace hb := ne_of_beq_false hb | skip); all_goals (try (exfalso; omega)))
          | (apply aw_cond; exact rfl; all_goals intro hb; all_goals (try dsimp only at hb); all_goals (try simp only [hb]); all_goals (first | replace hb := of_decide_eq_true hb | replace hb := of_decide_eq_false hb | replace hb := bne_t hb | replace hb := bne_f hb | replace hb := eq_of_beq hb | replace hb := ne_of_beq_false hb | skip); all_goals (try (exfalso; omega))))
        all_goals first
          | (exfalso; omega)
          | (apply ret4; exact rfl; exact rfl; exact rfl; exact rfl
             exact ⟨.own Af s.fills.length cf 95 7 (s.fills.flatMap FillR.enc) :: .own Ag s.gones.length cg 103 3 (s.gones.flatMap GoneR.enc) :: refB p A1 c1 s.bk F, by (repeat (first | exact dt_end | (apply dt_cons; · (repeat (first | exact sel0 | apply selS))) | apply dt_skip)), fun w hw => ⟨Af, cf, Ag, cg, A1, c1, rfl, rfl, hw.ownF mem0, hw.ownF mem1⟩⟩)
          | skip
    · have hrk := hrun k hk hz
      have hzp : decide ((runX o l (ms.take k)).left > 0) = true := by simp; omega
      have hF := fun h m1 m2 => (ref15_first W p A1 c1 (runX o l (ms.take k)).bk o how hBs).mono (h' := h) (memPairB m1 m2)
      have hFe : ∀ (o2 : Order) (bk : List Order), o2.side = o.side → o2.price = o.price → meetsO how o2 bk = meetsO how o bk := fun o2 bk e1 e2 => by
        have : takesB how o2 = takesB how o := by funext x; unfold takesB; rw [e1, e2]
        unfold meetsO; rw [this, e1]
      have hF := fun h m1 m2 => (ref15_first W p A1 c1 (runX o l (ms.take k)).bk { o with left := (runX o l (ms.take k)).left } how hBs).mono (h' := h) (memPairB m1 m2)
      rw [hFe { o with left := (runX o l (ms.take k)).left } (runX o l (ms.take k)).bk rfl rfl, hrk] at hF
      by_cases hlt : k < ms.length
      · obtain ⟨x, hx⟩ : ∃ x, ms[k]? = some x := ⟨ms[k]'(by omega), List.getElem?_eq_getElem (by omega)⟩
        have hhd : (ms.drop k).head? = some x := by rw [List.head?_drop]; exact hx
        rw [hhd] at hF
        have hst := runX_step (o := o) (l := l) hx
        have hxl := hlf x (List.mem_of_getElem? hx)
        generalize runX o l (ms.take k) = s at hfc hBs hz hzp hst hF ⊢
        unfold stepX at hst
        rw [if_neg hz] at hst
        by_cases hown : x.owner = o.owner
        · rw [if_pos hown] at hst
          have hdr := fun g13 => ref14_Drop W (.blk g13 29 x.enc :: .own Af s.fills.length cf 95 7 (s.fills.flatMap FillR.enc) :: .own Ag s.gones.length cg 103 3 (s.gones.flatMap GoneR.enc) :: .blk g4 29 (Order.enc { o with left := s.left }) :: F) p A1 c1 s.bk x.id hBs.le
          repeat' (first
            | apply aw_seq | apply aw_region | apply aw_ret | apply aw_skip | apply aw_exit | apply aw_block | apply es_nil
            | (apply es_pure hT; (iterate 4 exact rfl)) | (apply es_skip; (iterate 3 exact rfl)) | (apply es_skip0; (iterate 2 exact rfl))
            | (apply es_i64 hT; (iterate 4 exact rfl); (iterate 2 (first | omega | (dsimp only; omega))))
            | (apply aw_draw [] [] hmix; decide +kernel)
            | (apply es_callQ (hs := (hF _ (by (repeat (first | exact List.mem_cons_self | apply List.mem_cons_of_mem))) (by (repeat (first | exact List.mem_cons_self | apply List.mem_cons_of_mem))))); (iterate 7 exact rfl))
            | (apply es_alloc hT; (iterate 5 exact rfl); first | ((fail_if_success (have q := g13)); intro g13) | intro _)
            | (apply es_store hT; (iterate 6 exact rfl); (repeat (first | exact sel0 | apply selS)); (iterate 3 exact rfl); exact Nat.le_of_ble_eq_true rfl)
            | (apply es_call (hs := (FSpec.perm (hdr g13) (by (repeat (first | exact List.Perm.refl _ | (apply permC; · (repeat (first | exact sel0 | apply selS)))))))); (iterate 7 exact rfl); rintro _ _ ⟨rfl, A9, c9, rfl⟩)
            | (apply es_buildS hT (cs := GoneR.enc ⟨x.id, x.owner, x.left⟩); (iterate 4 exact rfl))
            | (apply es_buildSlice hT; (iterate 12 exact rfl); intro g)
            | (apply es_append hT; (iterate 10 exact rfl); (repeat (first | exact sel0 | apply selS)); exact Reads.own mem0 rfl (GoneR.enc_one ⟨x.id, x.owner, x.left⟩); omega; (show (_ : Nat) * 24 ≤ _; omega); intro A' c')
            | (apply es_load; (iterate 5 exact rfl); first | (apply ld_blk hT; exact rfl; exact rfl; (repeat (first | exact List.mem_cons_self | apply List.mem_cons_of_mem)); exact rfl; exact rfl) | (apply ld_all hT; exact rfl; exact rfl; (repeat (first | exact List.mem_cons_self | apply List.mem_cons_of_mem)); exact rfl))
            | (apply es_box; (iterate 5 exact rfl); intro _) | (apply es_alloc hT; (iterate 5 exact rfl); intro _)
            | (apply aw_condT; (iterate 2 exact rfl)) | (apply aw_condF; (iterate 2 exact rfl))
            | (apply es_case; exact rfl; all_goals intro hb; all_goals (try dsimp only at hb); all_goals (try simp only [hb]); all_goals (first | replace hb := of_decide_eq_true hb | replace hb := of_decide_eq_false hb | replace hb := bne_t hb | replace hb := bne_f hb | replace hb := eq_of_beq hb | replace hb := ne_of_beq_false hb | skip); all_goals (try (exfalso; omega)))
            | (apply aw_cond; exact rfl; all_goals intro hb; all_goals (try dsimp only at hb); all_goals (try simp only [hb]); all_goals (first | replace hb := of_decide_eq_true hb | replace hb := of_decide_eq_false hb | replace hb := bne_t hb | replace hb := bne_f hb | replace hb := eq_of_beq hb | replace hb := ne_of_beq_false hb | skip); all_goals (try (exfalso; omega))))
          all_goals first
            | (exfalso; omega)
            | (apply seqblk
               refine loopq_end (k + 1, Af, cf, A', c', A9, c9) (by (try dsimp only); omega) (by (try dsimp only); omega) ?_ ?_
               · dsimp only; rw [hst]; exact ⟨rfl, rfl, rfl, rfl, by rw [List.length_append]; rfl, trivial⟩
               · dsimp only; rw [hst]; dsimp only; rw [List.length_append, List.flatMap_append]; (repeat (first | exact dt_end | (apply dt_cons; · (repeat (first | exact sel0 | apply selS))) | apply dt_skip)))
            | skip
        · rw [if_neg hown] at hst
          rw [Int.min_comm] at hst
          generalize hn : min x.left s.left = n at hst
          have hdr := fun g13 => ref14_Drop W (.blk g13 29 x.enc :: .own Af s.fills.length cf 95 7 (s.fills.flatMap FillR.enc) :: .own Ag s.gones.length cg 103 3 (s.gones.flatMap GoneR.enc) :: .blk g4 29 (Order.enc { o with left := s.left }) :: F) p A1 c1 s.bk x.id hBs.le
          have hls := fun g13 => ref14_Less W (.blk g13 29 x.enc :: .own Af s.fills.length cf 95 7 (s.fills.flatMap FillR.enc) :: .own Ag s.gones.length cg 103 3 (s.gones.flatMap GoneR.enc) :: .blk g4 29 (Order.enc { o with left := s.left }) :: F) p A1 c1 s.bk x.id (x.left - n) hBs.le
          by_cases hc : n = x.left
          · rw [if_pos hc] at hst
            have hc2 : (n == x.left) = true := by simpa using hc
            repeat' (first
              | apply aw_seq | apply aw_region | apply aw_ret | apply aw_skip | apply aw_exit | apply aw_block | apply es_nil
              | (apply es_pure hT; (iterate 4 exact rfl)) | (apply es_skip; (iterate 3 exact rfl)) | (apply es_skip0; (iterate 2 exact rfl))
              | (apply es_i64 hT; (iterate 4 exact rfl); (iterate 2 (first | omega | (dsimp only; omega))))
              | (apply aw_draw [] [] hmix; decide +kernel)
              | (apply es_callQ (hs := (hF _ (by (repeat (first | exact List.mem_cons_self | apply List.mem_cons_of_mem))) (by (repeat (first | exact List.mem_cons_self | apply List.mem_cons_of_mem))))); (iterate 7 exact rfl))
              | (apply es_alloc hT; (iterate 5 exact rfl); first | ((fail_if_success (have q := g13)); intro g13) | intro _)
              | (apply es_min; (iterate 5 exact rfl); rw [hn])
              | (apply es_store hT; (iterate 6 exact rfl); (repeat (first | exact sel0 | apply selS)); (iterate 3 exact rfl); exact Nat.le_of_ble_eq_true rfl)
              | (apply es_call (hs := (FSpec.perm (hdr g13) (by (repeat (first | exact List.Perm.refl _ | (apply permC; · (repeat (first | exact sel0 | apply selS)))))))); (iterate 7 exact rfl); rintro _ _ ⟨rfl, A9, c9, rfl⟩)
              | (apply es_buildS hT (cs := FillR.enc ⟨x.id, o.id, x.owner, o.owner, x.price, n, x.left - n⟩); (iterate 4 exact rfl))
              | (apply es_buildSlice hT; (iterate 12 exact rfl); intro g)
              | (apply es_append hT; (iterate 10 exact rfl); (repeat (first | exact sel0 | apply selS)); exact Reads.own mem0 rfl (FillR.enc_one ⟨x.id, o.id, x.owner, o.owner, x.price, n, x.left - n⟩); omega; (show (_ : Nat) * 56 ≤ _; omega); intro A' c')
              | (apply es_load; (iterate 5 exact rfl); first | (apply ld_blk hT; exact rfl; exact rfl; (repeat (first | exact List.mem_cons_self | apply List.mem_cons_of_mem)); exact rfl; exact rfl) | (apply ld_all hT; exact rfl; exact rfl; (repeat (first | exact List.mem_cons_self | apply List.mem_cons_of_mem)); exact rfl))
              | (apply es_box; (iterate 5 exact rfl); intro _) | (apply es_alloc hT; (iterate 5 exact rfl); intro _)
              | (apply aw_condT; (iterate 2 exact rfl)) | (apply aw_condF; (iterate 2 exact rfl))
              | (apply es_case; exact rfl; all_goals intro hb; all_goals (try dsimp only at hb); all_goals (try simp only [hb]); all_goals (first | replace hb := of_decide_eq_true hb | replace hb := of_decide_eq_false hb | replace hb := bne_t hb | replace hb := bne_f hb | replace hb := eq_of_beq hb | replace hb := ne_of_beq_false hb | skip); all_goals (try (exfalso; omega)))
              | (apply aw_cond; exact rfl; all_goals intro hb; all_goals (try dsimp only at hb); all_goals (try simp only [hb]); all_goals (first | replace hb := of_decide_eq_true hb | replace hb := of_decide_eq_false hb | replace hb := bne_t hb | replace hb := bne_f hb | replace hb := eq_of_beq hb | replace hb := ne_of_beq_false hb | skip); all_goals (try (exfalso; omega))))
            all_goals first
              | (exfalso; omega)
              | (apply blockq_n
                 refine loopq_end (k + 1, A', c', Ag, cg, A9, c9) (by (try dsimp only); omega) (by (try dsimp only); omega) ?_ ?_
                 · dsimp only; rw [hst]; exact ⟨rfl, rfl, rfl, by rw [List.length_append]; rfl, rfl, trivial⟩
                 · dsimp only; rw [hst]; dsimp only; rw [List.length_append, List.flatMap_append]; (repeat (first | exact dt_end | (apply dt_cons; · (repeat (first | exact sel0 | apply selS))) | apply dt_skip)))
              | skip
          · rw [if_neg hc] at hst
            have hc2 : (n == x.left) = false := by simpa using hc
            repeat' (first
              | apply aw_seq | apply aw_region | apply aw_ret | apply aw_skip | apply aw_exit | apply aw_block | apply es_nil
              | (apply es_pure hT; (iterate 4 exact rfl)) | (apply es_skip; (iterate 3 exact rfl)) | (apply es_skip0; (iterate 2 exact rfl))
              | (apply es_i64 hT; (iterate 4 exact rfl); (iterate 2 (first | omega | (dsimp only; omega))))
              | (apply aw_draw [] [] hmix; decide +kernel)
              | (apply es_callQ (hs := (hF _ (by (repeat (first | exact List.mem_cons_self | apply List.mem_cons_of_mem))) (by (repeat (first | exact List.mem_cons_self | apply List.mem_cons_of_mem))))); (iterate 7 exact rfl))
              | (apply es_alloc hT; (iterate 5 exact rfl); first | ((fail_if_success (have q := g13)); intro g13) | intro _)
              | (apply es_min; (iterate 5 exact rfl); rw [hn])
              | (apply es_store hT; (iterate 6 exact rfl); (repeat (first | exact sel0 | apply selS)); (iterate 3 exact rfl); exact Nat.le_of_ble_eq_true rfl)
              | (apply es_call (hs := (FSpec.perm (hls g13) (by (repeat (first | exact List.Perm.refl _ | (apply permC; · (repeat (first | exact sel0 | apply selS)))))))); (iterate 7 exact rfl); rintro _ _ ⟨rfl, A9, c9, rfl⟩)
              | (apply es_buildS hT (cs := FillR.enc ⟨x.id, o.id, x.owner, o.owner, x.price, n, x.left - n⟩); (iterate 4 exact rfl))
              | (apply es_buildSlice hT; (iterate 12 exact rfl); intro g)
              | (apply es_append hT; (iterate 10 exact rfl); (repeat (first | exact sel0 | apply selS)); exact Reads.own mem0 rfl (FillR.enc_one ⟨x.id, o.id, x.owner, o.owner, x.price, n, x.left - n⟩); omega; (show (_ : Nat) * 56 ≤ _; omega); intro A' c')
              | (apply es_load; (iterate 5 exact rfl); first | (apply ld_blk hT; exact rfl; exact rfl; (repeat (first | exact List.mem_cons_self | apply List.mem_cons_of_mem)); exact rfl; exact rfl) | (apply ld_all hT; exact rfl; exact rfl; (repeat (first | exact List.mem_cons_self | apply List.mem_cons_of_mem)); exact rfl))
              | (apply es_box; (iterate 5 exact rfl); intro _) | (apply es_alloc hT; (iterate 5 exact rfl); intro _)
              | (apply aw_condT; (iterate 2 exact rfl)) | (apply aw_condF; (iterate 2 exact rfl))
              | (apply es_case; exact rfl; all_goals intro hb; all_goals (try dsimp only at hb); all_goals (try simp only [hb]); all_goals (first | replace hb := of_decide_eq_true hb | replace hb := of_decide_eq_false hb | replace hb := bne_t hb | replace hb := bne_f hb | replace hb := eq_of_beq hb | replace hb := ne_of_beq_false hb | skip); all_goals (try (exfalso; omega)))
              | (apply aw_cond; exact rfl; all_goals intro hb; all_goals (try dsimp only at hb); all_goals (try simp only [hb]); all_goals (first | replace hb := of_decide_eq_true hb | replace hb := of_decide_eq_false hb | replace hb := bne_t hb | replace hb := bne_f hb | replace hb := eq_of_beq hb | replace hb := ne_of_beq_false hb | skip); all_goals (try (exfalso; omega))))
            all_goals first
              | (exfalso; omega)
              | (apply blockq_n
                 refine loopq_end (k + 1, A', c', Ag, cg, A9, c9) (by (try dsimp only); omega) (by (try dsimp only); omega) ?_ ?_
                 · dsimp only; rw [hst]; exact ⟨rfl, rfl, rfl, by rw [List.length_append]; rfl, rfl, trivial⟩
                 · dsimp only; rw [hst]; dsimp only; rw [List.length_append, List.flatMap_append]; (repeat (first | exact dt_end | (apply dt_cons; · (repeat (first | exact sel0 | apply selS))) | apply dt_skip)))
              | skip
      · obtain rfl : k = ms.length := by omega
        have hhd : (ms.drop ms.length).head? = none := by simp
        rw [hhd] at hF
        have hsf : runX o l (ms.take ms.length) = runX o l (meetsO how o l) := by rw [hms, List.take_length]
        generalize runX o l (ms.take ms.length) = s at hfc hBs hz hzp hsf hF ⊢
        have hrs : doV how o l = ⟨s.fills, s.gones, s.left, 0, restX how o s⟩ := by unfold doV; rw [if_pos hw0, ← hsf]
        rw [hrs]
        by_cases hst : staysB how = true ∧ s.left > 0
        · have hrx : restX how o s = addO { o with left := s.left } s.bk := by unfold restX; rw [if_pos hst]
          rw [hrx]
          have hst2 := hst.2
          have hhow : how = 0 ∨ how = 3 := by have := hst.1; simpa [staysB] using this
          have hadd := fun g13 => ref14_Add W (.own Af s.fills.length cf 95 7 (s.fills.flatMap FillR.enc) :: .own Ag s.gones.length cg 103 3 (s.gones.flatMap GoneR.enc) :: .blk g4 29 (Order.enc { o with left := s.left }) :: .blk g13 29 zeroO.enc :: F) p A1 c1 s.bk { o with left := s.left } hBs.le
          repeat' (first
            | apply aw_seq | apply aw_region | apply aw_ret | apply aw_skip | apply aw_exit | apply aw_block | apply es_nil
            | (apply es_pure hT; (iterate 4 exact rfl)) | (apply es_skip; (iterate 3 exact rfl)) | (apply es_skip0; (iterate 2 exact rfl))
            | (apply es_i64 hT; (iterate 4 exact rfl); (iterate 2 (first | omega | (dsimp only; omega))))
            | (apply es_callQ (hs := (hF _ (by (repeat (first | exact List.mem_cons_self | apply List.mem_cons_of_mem))) (by (repeat (first | exact List.mem_cons_self | apply List.mem_cons_of_mem))))); (iterate 7 exact rfl))
            | (apply es_alloc hT; (iterate 5 exact rfl); first | ((fail_if_success (have q := g13)); intro g13) | intro _)
            | (apply es_call (hs := (FSpec.perm (hadd g13) (by (repeat (first | exact List.Perm.refl _ | (apply permC; · (repeat (first | exact sel0 | apply selS)))))))); (iterate 7 exact rfl); rintro _ _ ⟨rfl, A9, c9, rfl⟩)
            | (apply aw_draw [] [] hmix; decide +kernel)
            | (apply es_store hT; (iterate 6 exact rfl); (repeat (first | exact sel0 | apply selS)); (iterate 3 exact rfl); exact Nat.le_of_ble_eq_true rfl)
            | (apply es_load; (iterate 5 exact rfl); first | (apply ld_blk hT; exact rfl; exact rfl; (repeat (first | exact List.mem_cons_self | apply List.mem_cons_of_mem)); exact rfl; exact rfl) | (apply ld_all hT; exact rfl; exact rfl; (repeat (first | exact List.mem_cons_self | apply List.mem_cons_of_mem)); exact rfl))
            | (apply es_box; (iterate 5 exact rfl); intro _) | (apply es_alloc hT; (iterate 5 exact rfl); intro _)
            | (apply aw_condT; (iterate 2 exact rfl)) | (apply aw_condF; (iterate 2 exact rfl))
            | (apply es_case; exact rfl; all_goals intro hb; all_goals (try dsimp only at hb); all_goals (try simp only [hb]); all_goals (first | replace hb := of_decide_eq_true hb | replace hb := of_decide_eq_false hb | replace hb := bne_t hb | replace hb := bne_f hb | replace hb := eq_of_beq hb | replace hb := ne_of_beq_false hb | skip); all_goals (try (exfalso; omega)))
            | (apply aw_cond; exact rfl; all_goals intro hb; all_goals (try dsimp only at hb); all_goals (try simp only [hb]); all_goals (first | replace hb := of_decide_eq_true hb | replace hb := of_decide_eq_false hb | replace hb := bne_t hb | replace hb := bne_f hb | replace hb := eq_of_beq hb | replace hb := ne_of_beq_false hb | skip); all_goals (try (exfalso; omega))))
          all_goals first
            | (exfalso; omega)
            | (apply ret4; exact rfl; exact rfl; exact rfl; exact rfl
               exact ⟨.own Af s.fills.length cf 95 7 (s.fills.flatMap FillR.enc) :: .own Ag s.gones.length cg 103 3 (s.gones.flatMap GoneR.enc) :: refB p A9 c9 (addO { o with left := s.left } s.bk) F, by (repeat (first | exact dt_end | (apply dt_cons; · (repeat (first | exact sel0 | apply selS))) | apply dt_skip)), fun w hw => ⟨Af, cf, Ag, cg, A9, c9, rfl, rfl, hw.ownF mem0, hw.ownF mem1⟩⟩)
            | skip
        · have hrx : restX how o s = s.bk := by unfold restX; rw [if_neg hst]
          rw [hrx]
          have hno : ¬ ((how = 0 ∨ how = 3) ∧ s.left > 0) := fun h => hst ⟨by simp [staysB, h.1], h.2⟩
          repeat' (first
            | apply aw_seq | apply aw_region | apply aw_ret | apply aw_skip | apply aw_exit | apply aw_block | apply es_nil
            | (apply es_pure hT; (iterate 4 exact rfl)) | (apply es_skip; (iterate 3 exact rfl)) | (apply es_skip0; (iterate 2 exact rfl))
            | (apply es_i64 hT; (iterate 4 exact rfl); (iterate 2 (first | omega | (dsimp only; omega))))
            | (apply es_callQ (hs := (hF _ (by (repeat (first | exact List.mem_cons_self | apply List.mem_cons_of_mem))) (by (repeat (first | exact List.mem_cons_self | apply List.mem_cons_of_mem))))); (iterate 7 exact rfl))
            | (apply es_alloc hT; (iterate 5 exact rfl); first | ((fail_if_success (have q := g13)); intro g13) | intro _)
            | (apply aw_draw [] [] hmix; decide +kernel)
            | (apply es_store hT; (iterate 6 exact rfl); (repeat (first | exact sel0 | apply selS)); (iterate 3 exact rfl); exact Nat.le_of_ble_eq_true rfl)
            | (apply es_load; (iterate 5 exact rfl); first | (apply ld_blk hT; exact rfl; exact rfl; (repeat (first | exact List.mem_cons_self | apply List.mem_cons_of_mem)); exact rfl; exact rfl) | (apply ld_all hT; exact rfl; exact rfl; (repeat (first | exact List.mem_cons_self | apply List.mem_cons_of_mem)); exact rfl))
            | (apply es_box; (iterate 5 exact rfl); intro _) | (apply es_alloc hT; (iterate 5 exact rfl); intro _)
            | (apply aw_condT; (iterate 2 exact rfl)) | (apply aw_condF; (iterate 2 exact rfl))
            | (apply es_case; exact rfl; all_goals intro hb; all_goals (try dsimp only at hb); all_goals (try simp only [hb]); all_goals (first | replace hb := of_decide_eq_true hb | replace hb := of_decide_eq_false hb | replace hb := bne_t hb | replace hb := bne_f hb | replace hb := eq_of_beq hb | replace hb := ne_of_beq_false hb | skip); all_goals (try (exfalso; omega)))
            | (apply aw_cond; exact rfl; all_goals intro hb; all_goals (try dsimp only at hb); all_goals (try simp only [hb]); all_goals (first | replace hb := of_decide_eq_true hb | replace hb := of_decide_eq_false hb | replace hb := bne_t hb | replace hb := bne_f hb | replace hb := eq_of_beq hb | replace hb := ne_of_beq_false hb | skip); all_goals (try (exfalso; omega))))
          all_goals first
            | (exfalso; omega)
            | (apply ret4; exact rfl; exact rfl; exact rfl; exact rfl
               exact ⟨.own Af s.fills.length cf 95 7 (s.fills.flatMap FillR.enc) :: .own Ag s.gones.length cg 103 3 (s.gones.flatMap GoneR.enc) :: refB p A1 c1 s.bk F, by (repeat (first | exact dt_end | (apply dt_cons; · (repeat (first | exact sel0 | apply selS))) | apply dt_skip)), fun w hw => ⟨Af, cf, Ag, cg, A1, c1, rfl, rfl, hw.ownF mem0, hw.ownF mem1⟩⟩)
            | skip
  · have hd : doV how o l = ⟨[], [], 0, wrongV how o l, l⟩ := by unfold doV; rw [if_neg hw0]
    rw [hd]
    have hne : (wrongV how o l != 0) = true := by simp [hw0]
    generalize wrongV how o l = e at hW' hw0 hne
    refine aw_conv (fun w hw => ⟨_, (hw.own_nil 103 3).own_nil 95 7, ?_⟩)
    repeat' (first
      | apply aw_seq | apply aw_region | apply aw_ret | apply aw_skip | apply aw_exit | apply aw_block | apply es_nil
      | (apply es_pure hT; (iterate 4 exact rfl)) | (apply es_skip; (iterate 3 exact rfl)) | (apply es_skip0; (iterate 2 exact rfl))
      | (apply es_i64 hT; (iterate 4 exact rfl); (iterate 2 (first | omega | (dsimp only; omega))))
      | (apply aw_draw [] [] hmix; decide +kernel)
      | (apply es_box; (iterate 5 exact rfl); intro g4)
      | (apply es_callQ (hs := (hW' _ (by (repeat (first | exact List.mem_cons_self | apply List.mem_cons_of_mem))) (by (repeat (first | exact List.mem_cons_self | apply List.mem_cons_of_mem))))); (iterate 7 exact rfl))
      | (apply es_load; (iterate 5 exact rfl); first | (apply ld_blk hT; exact rfl; exact rfl; (repeat (first | exact List.mem_cons_self | apply List.mem_cons_of_mem)); exact rfl; exact rfl) | (apply ld_all hT; exact rfl; exact rfl; (repeat (first | exact List.mem_cons_self | apply List.mem_cons_of_mem)); exact rfl))
      | (apply es_box; (iterate 5 exact rfl); intro _) | (apply es_alloc hT; (iterate 5 exact rfl); intro _)
      | (apply aw_condT; (iterate 2 exact rfl)) | (apply aw_condF; (iterate 2 exact rfl))
      | (apply es_case; exact rfl; all_goals intro hb; all_goals (try dsimp only at hb); all_goals (try simp only [hb]); all_goals (first | replace hb := of_decide_eq_true hb | replace hb := of_decide_eq_false hb | replace hb := bne_t hb | replace hb := bne_f hb | replace hb := eq_of_beq hb | replace hb := ne_of_beq_false hb | skip); all_goals (try (exfalso; omega)))
      | (apply aw_cond; exact rfl; all_goals intro hb; all_goals (try dsimp only at hb); all_goals (try simp only [hb]); all_goals (first | replace hb := of_decide_eq_true hb | replace hb := of_decide_eq_false hb | replace hb := bne_t hb | replace hb := bne_f hb | replace hb := eq_of_beq hb | replace hb := ne_of_beq_false hb | skip); all_goals (try (exfalso; omega))))
    all_goals first
      | (exfalso; omega)
      | (apply ret4; exact rfl; exact rfl; exact rfl; exact rfl
         exact ⟨.own none 0 0 95 7 [] :: .own none 0 0 103 3 [] :: refB p A c l F, by (repeat (first | exact dt_end | (apply dt_cons; · (repeat (first | exact sel0 | apply selS))) | apply dt_skip)), fun w hw => ⟨none, 0, none, 0, A, c, rfl, rfl, hw.ownF mem0, hw.ownF mem1⟩⟩)
      | (exfalso; simp_all; done)
      | skip
end Go.Proofs.Ytiefkpfamkkapaa
