/- Contracts of package cross and of the document's answer (consolsref15): a trade; an order comes. Conditions stand in each statement. -/
import Derived.Test.YtiefkpfamkkapaaCrossA
import Derived.Test.YtiefkpfamkkapaaSlM
set_option linter.unusedSimpArgs false
set_option linter.unusedVariables false
namespace Go.Proofs.Ytiefkpfamkkapaa
open Go Go.Sl
attribute [local irreducible] AW ES EP Ld RetQ
set_option maxRecDepth 100000

set_option maxHeartbeats 1000000 in
theorem cross_trade (W : World) (F : List Chunk) (p g : Nat) (A : Option Addr) (c : Nat) (l : List Order) (o x : Order) (hB : BookB l) (ho : 0 ≤ o.left ∧ o.left ≤ 1000000) (hx : 1 ≤ x.left ∧ x.left ≤ 1000000) :
    FSpec Try.prog W 94 [.pointer (some ⟨p, 0, none⟩), .pointer (some ⟨g, 0, none⟩), .agg x.enc.toArray] (bookTab p A c l (.blk g 29 o.enc :: F))
      (fun v h' => v = .agg (FillR.enc ⟨x.id, o.id, x.owner, o.owner, x.price, min o.left x.left, x.left - min o.left x.left⟩).toArray ∧ ∃ A' c', h' = bookTab p A' c' (if min o.left x.left = x.left then dropO x.id l else lessO x.id (x.left - min o.left x.left) l) (.blk g 29 (Order.enc { o with left := o.left - min o.left x.left }) :: F)) := by
  refine FSpec.dropTo ?_
  refine spec_body Try.func94 rfl rfl Try.results94 Try.ntmps94 rfl rfl ?_
  generalize hn : min o.left x.left = n
  have hd := fun g5 g6 => (book_Drop W (.blk g6 95 ti95.zero.cells.toList :: .blk g5 29 x.enc :: .blk g 29 (Order.enc { o with left := o.left - n }) :: F) p A c l x.id hB.le)
  have hls := fun g5 g6 => (book_Less W (.blk g6 95 ti95.zero.cells.toList :: .blk g5 29 x.enc :: .blk g 29 (Order.enc { o with left := o.left - n }) :: F) p A c l x.id (x.left - n) hB.le)
  by_cases hc : n = x.left
  · rw [if_pos hc]
    have hc2 : (n == x.left) = true := by simpa using hc
    repeat' (first
      | apply aw_seq | apply aw_region | apply aw_ret | apply aw_skip | apply aw_exit | apply aw_block | apply es_nil
      | (apply es_pure hT; (iterate 4 exact rfl)) | (apply es_skip; (iterate 3 exact rfl)) | (apply es_skip0; (iterate 2 exact rfl))
      | (apply es_i64 hT; (iterate 4 exact rfl); (iterate 2 (first | omega | (dsimp only; omega))))
      | (apply es_box; (iterate 5 exact rfl); intro g5)
      | (apply es_alloc hT; (iterate 5 exact rfl); first | ((fail_if_success (have q := g6)); intro g6) | intro _)
      | (apply aw_draw [] [] hmix; decide +kernel)
      | (apply es_min; (iterate 5 exact rfl); rw [hn])
      | (apply es_store hT; (iterate 6 exact rfl); (repeat (first | exact sel0 | apply selS)); (iterate 3 exact rfl); exact Nat.le_of_ble_eq_true rfl)
      | (apply es_buildS hT (cs := FillR.enc ⟨x.id, o.id, x.owner, o.owner, x.price, n, x.left - n⟩); (iterate 4 exact rfl))
      | (apply es_call (hs := (FSpec.perm (hd g5 g6) (by (repeat (first | exact List.Perm.refl _ | (apply permC; · (repeat (first | exact sel0 | apply selS)))))))); (iterate 7 exact rfl); rintro _ _ ⟨rfl, A2, c2, rfl⟩)
      | (apply es_load; (iterate 5 exact rfl); first | (apply ld_blk hT; exact rfl; exact rfl; (repeat (first | exact List.mem_cons_self | apply List.mem_cons_of_mem)); exact rfl; exact rfl) | (apply ld_all hT; exact rfl; exact rfl; (repeat (first | exact List.mem_cons_self | apply List.mem_cons_of_mem)); exact rfl))
      | (apply es_box; (iterate 5 exact rfl); intro _) | (apply es_alloc hT; (iterate 5 exact rfl); intro _)
      | (apply aw_condT; (iterate 2 exact rfl)) | (apply aw_condF; (iterate 2 exact rfl))
      | (apply es_case; exact rfl; all_goals intro hb; all_goals (fail_if_success (change true = true at hb)); all_goals (fail_if_success (change false = false at hb)); all_goals (try dsimp only at hb); all_goals (try simp only [hb]); all_goals (first | replace hb := of_decide_eq_true hb | replace hb := of_decide_eq_false hb | replace hb := bne_t hb | replace hb := bne_f hb | replace hb := eq_of_beq hb | replace hb := ne_of_beq_false hb | skip); all_goals (try (exfalso; omega)))
      | (apply aw_cond; exact rfl; all_goals intro hb; all_goals (try dsimp only at hb); all_goals (try simp only [hb]); all_goals (first | replace hb := of_decide_eq_true hb | replace hb := of_decide_eq_false hb | replace hb := bne_t hb | replace hb := bne_f hb | replace hb := eq_of_beq hb | replace hb := ne_of_beq_false hb | skip); all_goals (try (exfalso; omega))))
    all_goals first
      | (exfalso; omega)
      | (apply ret1c; exact rfl; exact ld_all hT rfl rfl (by (repeat (first | exact List.mem_cons_self | apply List.mem_cons_of_mem))) rfl; exact ⟨_, by (repeat (first | exact dt_end | (apply dt_cons; · (repeat (first | exact sel0 | apply selS))) | apply dt_skip)), rfl, A2, c2, rfl⟩)
      | skip
  · rw [if_neg hc]
    have hc2 : (n == x.left) = false := by simpa using hc
    repeat' (first
      | apply aw_seq | apply aw_region | apply aw_ret | apply aw_skip | apply aw_exit | apply aw_block | apply es_nil
      | (apply es_pure hT; (iterate 4 exact rfl)) | (apply es_skip; (iterate 3 exact rfl)) | (apply es_skip0; (iterate 2 exact rfl))
      | (apply es_i64 hT; (iterate 4 exact rfl); (iterate 2 (first | omega | (dsimp only; omega))))
      | (apply es_box; (iterate 5 exact rfl); intro g5)
      | (apply es_alloc hT; (iterate 5 exact rfl); first | ((fail_if_success (have q := g6)); intro g6) | intro _)
      | (apply aw_draw [] [] hmix; decide +kernel)
      | (apply es_min; (iterate 5 exact rfl); rw [hn])
      | (apply es_store hT; (iterate 6 exact rfl); (repeat (first | exact sel0 | apply selS)); (iterate 3 exact rfl); exact Nat.le_of_ble_eq_true rfl)
      | (apply es_buildS hT (cs := FillR.enc ⟨x.id, o.id, x.owner, o.owner, x.price, n, x.left - n⟩); (iterate 4 exact rfl))
      | (apply es_call (hs := (FSpec.perm (hls g5 g6) (by (repeat (first | exact List.Perm.refl _ | (apply permC; · (repeat (first | exact sel0 | apply selS)))))))); (iterate 7 exact rfl); rintro _ _ ⟨rfl, rfl⟩)
      | (apply es_load; (iterate 5 exact rfl); first | (apply ld_blk hT; exact rfl; exact rfl; (repeat (first | exact List.mem_cons_self | apply List.mem_cons_of_mem)); exact rfl; exact rfl) | (apply ld_all hT; exact rfl; exact rfl; (repeat (first | exact List.mem_cons_self | apply List.mem_cons_of_mem)); exact rfl))
      | (apply es_box; (iterate 5 exact rfl); intro _) | (apply es_alloc hT; (iterate 5 exact rfl); intro _)
      | (apply aw_condT; (iterate 2 exact rfl)) | (apply aw_condF; (iterate 2 exact rfl))
      | (apply es_case; exact rfl; all_goals intro hb; all_goals (fail_if_success (change true = true at hb)); all_goals (fail_if_success (change false = false at hb)); all_goals (try dsimp only at hb); all_goals (try simp only [hb]); all_goals (first | replace hb := of_decide_eq_true hb | replace hb := of_decide_eq_false hb | replace hb := bne_t hb | replace hb := bne_f hb | replace hb := eq_of_beq hb | replace hb := ne_of_beq_false hb | skip); all_goals (try (exfalso; omega)))
      | (apply aw_cond; exact rfl; all_goals intro hb; all_goals (try dsimp only at hb); all_goals (try simp only [hb]); all_goals (first | replace hb := of_decide_eq_true hb | replace hb := of_decide_eq_false hb | replace hb := bne_t hb | replace hb := bne_f hb | replace hb := eq_of_beq hb | replace hb := ne_of_beq_false hb | skip); all_goals (try (exfalso; omega))))
    all_goals first
      | (exfalso; omega)
      | (apply ret1c; exact rfl; exact ld_all hT rfl rfl (by (repeat (first | exact List.mem_cons_self | apply List.mem_cons_of_mem))) rfl; exact ⟨_, by (repeat (first | exact dt_end | (apply dt_cons; · (repeat (first | exact sel0 | apply selS))) | apply dt_skip)), rfl, A, c, rfl⟩)
      | skip

theorem runX_step {o : Order} {l ms : List Order} {k : Nat} {x : Order} (hx : ms[k]? = some x) : runX o l (ms.take (k + 1)) = stepX o (runX o l (ms.take k)) x := by
  unfold runX; rw [List.take_add_one, hx, List.foldl_append]; rfl
theorem runX_stop {o : Order} {l ms : List Order} {k : Nat} (h : (runX o l (ms.take k)).left = 0) : runX o l ms = runX o l (ms.take k) := by
  conv => lhs; rw [← List.take_append_drop k ms]
  have e : runX o l (ms.take k ++ ms.drop k) = (ms.drop k).foldl (stepX o) (runX o l (ms.take k)) := by unfold runX; rw [List.foldl_append]
  rw [e, foldX_stop h]
theorem stepX_lens {o : Order} {s : XSt} {x : Order} : (stepX o s x).fills.length ≤ s.fills.length + 1 ∧ (stepX o s x).gones.length ≤ s.gones.length + 1 := by
  unfold stepX
  split
  · omega
  · split <;> simp
theorem runX_facts {o : Order} {l ms : List Order} (hl : ∀ x ∈ ms, 1 ≤ x.left) (ho : 0 ≤ o.left) : ∀ k, k ≤ ms.length → 0 ≤ (runX o l (ms.take k)).left ∧ (runX o l (ms.take k)).left ≤ o.left ∧ (runX o l (ms.take k)).fills.length ≤ k ∧ (runX o l (ms.take k)).gones.length ≤ k := by
  intro k
  induction k with
  | zero => intro _; exact ⟨ho, Int.le_refl _, Nat.le_refl _, Nat.le_refl _⟩
  | succ k ih =>
    intro hk
    obtain ⟨x, hx⟩ : ∃ x, ms[k]? = some x := ⟨ms[k]'(by omega), List.getElem?_eq_getElem (by omega)⟩
    rw [runX_step hx]
    have h1 := ih (by omega)
    have h2 := stepX_left (o := o) (s := runX o l (ms.take k)) (hl x (List.mem_of_getElem? hx)) h1.1
    have h3 := stepX_lens (o := o) (s := runX o l (ms.take k)) (x := x)
    omega
theorem newB_left {how : Int} {o : Order} {l : List Order} (h : newB how o l = true) : 1 ≤ o.left ∧ o.left ≤ 1000000 := by
  unfold newB at h
  simp only [Bool.and_eq_true] at h
  have := okO_left h.2.2.2.1
  unfold asX at this
  split at this <;> exact this

set_option maxHeartbeats 4000000 in
theorem cross_Do (W : World) (F : List Chunk) (p : Nat) (A : Option Addr) (c : Nat) (l : List Order) (o : Order) (how : Int) (hB : BookB l) :
    FSpec Try.prog W 66 [.pointer (some ⟨p, 0, none⟩), .agg o.enc.toArray, .int .i64 how] (bookTab p A c l F)
      (fun v h' => ∃ Af cf Ag cg A' c', v = .tuple #[.slice Af (doV how o l).fills.length cf, .slice Ag (doV how o l).gones.length cg, .int .i64 (doV how o l).left, .int .i64 (doV how o l).err] ∧
        h' = .own Af (doV how o l).fills.length cf 95 7 ((doV how o l).fills.flatMap FillR.enc) :: .own Ag (doV how o l).gones.length cg 103 3 ((doV how o l).gones.flatMap GoneR.enc) :: bookTab p A' c' (doV how o l).bk F ∧
        OwnF Af (doV how o l).fills.length cf 7 ((doV how o l).fills.flatMap FillR.enc) ∧ OwnF Ag (doV how o l).gones.length cg 3 ((doV how o l).gones.flatMap GoneR.enc)) := by
  refine FSpec.dropF ?_
  have hW' := fun h m1 m2 => (cross_wrong W p A c l o how hB).mono (h' := h) (memPairB m1 m2)
  have hM := fun h m1 m2 => cross_meets W h p A c l o how hB m1 m2
  have hS := cross_stays W how
  refine spec_body Try.func66 rfl rfl Try.results66 Try.ntmps66 rfl rfl ?_
  by_cases hw0 : wrongV how o l = 0
  · rw [hw0] at hW'
    have hnb : newB how o l = true := by
      cases h : newB how o l
      · unfold wrongV at hw0; rw [if_pos h] at hw0; omega
      · rfl
    have hol := newB_left hnb
    have hml := meets_len how o l
    have hbl := hB.len
    have hlf : ∀ x ∈ meetsO how o l, 1 ≤ x.left ∧ x.left ≤ 1000000 := fun x hx => hB.left x (meets_mem hx).1
    have hsf0 : ∀ s, s = runX o l (meetsO how o l) → s = runX o l (meetsO how o l) := fun _ h => h
    generalize hms : meetsO how o l = ms at hM hml hlf
    repeat' (first
      | apply aw_seq | apply aw_region | apply aw_ret | apply aw_skip | apply aw_exit | apply aw_block | apply es_nil
      | (apply es_pure hT; (iterate 4 exact rfl)) | (apply es_skip; (iterate 3 exact rfl)) | (apply es_skip0; (iterate 2 exact rfl))
      | (apply es_i64 hT; (iterate 4 exact rfl); (iterate 2 (first | omega | (dsimp only; omega))))
      | (apply aw_draw [] [] hmix; decide +kernel)
      | (apply es_box; (iterate 5 exact rfl); intro g4)
      | (apply es_callQ (hs := (hW' _ (by (repeat (first | exact List.mem_cons_self | apply List.mem_cons_of_mem))) (by (repeat (first | exact List.mem_cons_self | apply List.mem_cons_of_mem))))); (iterate 7 exact rfl))
      | (apply es_call (hs := (hM _ (by (repeat (first | exact List.mem_cons_self | apply List.mem_cons_of_mem))) (by (repeat (first | exact List.mem_cons_self | apply List.mem_cons_of_mem))))); (iterate 7 exact rfl); rintro _ _ ⟨AM, cM, rfl, rfl, hfM⟩)
      | (apply es_load; (iterate 5 exact rfl); first | (apply ld_blk hT; exact rfl; exact rfl; (repeat (first | exact List.mem_cons_self | apply List.mem_cons_of_mem)); exact rfl; exact rfl) | (apply ld_all hT; exact rfl; exact rfl; (repeat (first | exact List.mem_cons_self | apply List.mem_cons_of_mem)); exact rfl))
      | (apply es_box; (iterate 5 exact rfl); intro _) | (apply es_alloc hT; (iterate 5 exact rfl); intro _)
      | (apply aw_condT; (iterate 2 exact rfl)) | (apply aw_condF; (iterate 2 exact rfl))
      | (apply es_case; exact rfl; all_goals intro hb; all_goals (fail_if_success (change true = true at hb)); all_goals (fail_if_success (change false = false at hb)); all_goals (try dsimp only at hb); all_goals (try simp only [hb]); all_goals (first | replace hb := of_decide_eq_true hb | replace hb := of_decide_eq_false hb | replace hb := bne_t hb | replace hb := bne_f hb | replace hb := eq_of_beq hb | replace hb := ne_of_beq_false hb | skip); all_goals (try (exfalso; omega)))
      | (apply aw_cond; exact rfl; all_goals intro hb; all_goals (try dsimp only at hb); all_goals (try simp only [hb]); all_goals (first | replace hb := of_decide_eq_true hb | replace hb := of_decide_eq_false hb | replace hb := bne_t hb | replace hb := bne_f hb | replace hb := eq_of_beq hb | replace hb := ne_of_beq_false hb | skip); all_goals (try (exfalso; omega))))
    all_goals try (exfalso; omega)
    refine aw_conv (fun w hw => ⟨_, (hw.own_nil 103 3).own_nil 95 7, ?_⟩)
    refine aw_loopD (α := Nat × Option Addr × Nat × Option Addr × Nat × Option Addr × Nat) (E := fun x => [(0, .pointer (some ⟨p, 0, none⟩)), (2, .int .i64 how), (4, .pointer (some ⟨g4, 0, none⟩)), (6, .slice x.2.1 (runX o l (ms.take x.1)).fills.length x.2.2.1), (7, .slice x.2.2.2.1 (runX o l (ms.take x.1)).gones.length x.2.2.2.2.1), (23, .slice AM ms.length cM), (24, .int .i64 ms.length), (25, .int .i64 x.1)])
      (H := fun x => .own AM ms.length cM 29 6 (ms.flatMap Order.enc) :: .own x.2.1 (runX o l (ms.take x.1)).fills.length x.2.2.1 95 7 ((runX o l (ms.take x.1)).fills.flatMap FillR.enc) :: .own x.2.2.2.1 (runX o l (ms.take x.1)).gones.length x.2.2.2.2.1 103 3 ((runX o l (ms.take x.1)).gones.flatMap GoneR.enc) :: bookTab p x.2.2.2.2.2.1 x.2.2.2.2.2.2 (runX o l (ms.take x.1)).bk (.blk g4 29 (Order.enc { o with left := (runX o l (ms.take x.1)).left }) :: F))
      (μ := fun x => ms.length - x.1) (S := fun x => x.1 ≤ ms.length) (0, none, 0, none, 0, A, c) (Nat.zero_le _) ⟨rfl, rfl, rfl, rfl, rfl, rfl, rfl, rfl, trivial⟩ (by
        show DropTo _ (.own AM ms.length cM 29 6 (ms.flatMap Order.enc) :: .own none 0 0 95 7 [] :: .own none 0 0 103 3 [] :: bookTab p A c l (.blk g4 29 o.enc :: F))
        (repeat (first | exact dt_end | (apply dt_cons; · (repeat (first | exact sel0 | apply selS))) | apply dt_skip))) ?_
    rintro ⟨k, Af, cf, Ag, cg, A1, c1⟩ hk
    dsimp only at hk ⊢
    have hfc := runX_facts (o := o) (l := l) (fun x hx => (hlf x hx).1) (by omega) k hk
    have hBs : BookB (runX o l (ms.take k)).bk := runX_B hB
    by_cases hz : (runX o l (ms.take k)).left = 0
    · have hsf : runX o l (ms.take k) = runX o l (meetsO how o l) := by rw [hms]; exact (runX_stop hz).symm
      by_cases hlt : k < ms.length
      · obtain ⟨x, hx⟩ : ∃ x, ms[k]? = some x := ⟨ms[k]'(by omega), List.getElem?_eq_getElem (by omega)⟩
        have hx2 : ms[(k : Int).toNat]? = some x := by simpa using hx
        have hAM := hfM.some_ (by omega)
        have hd1 : decide ((k : Int) < (ms.length : Int)) = true := by simp; omega
        generalize runX o l (ms.take k) = s at hfc hBs hz hsf ⊢
        have hrs : doV how o l = ⟨s.fills, s.gones, s.left, 0, restX how o s⟩ := by unfold doV; rw [if_pos hw0, ← hsf]
        rw [hrs]
        by_cases hst : staysB how = true ∧ s.left > 0
        · have hrx : restX how o s = addO { o with left := s.left } s.bk := by unfold restX; rw [if_pos hst]
          rw [hrx]
          rw [hst.1] at hS
          have hst2 := hst.2
          have hadd := book_Add W (.own AM ms.length cM 29 6 (ms.flatMap Order.enc) :: .own Af s.fills.length cf 95 7 (s.fills.flatMap FillR.enc) :: .own Ag s.gones.length cg 103 3 (s.gones.flatMap GoneR.enc) :: .blk g4 29 (Order.enc { o with left := s.left }) :: F) p A1 c1 s.bk { o with left := s.left } hBs.le
          repeat' (first
            | apply aw_seq | apply aw_region | apply aw_ret | apply aw_skip | apply aw_exit | apply aw_block | apply es_nil
            | (apply es_pure hT; (iterate 4 exact rfl)) | (apply es_skip; (iterate 3 exact rfl)) | (apply es_skip0; (iterate 2 exact rfl))
            | (apply es_i64 hT; (iterate 4 exact rfl); (iterate 2 (first | omega | (dsimp only; omega))))
            | (apply es_idx hT; (iterate 8 exact rfl); (iterate 2 omega); exact hAM)
            | (apply es_load; (iterate 5 exact rfl); exact ld_elem hT rfl rfl (hfM.reads mem0) Order.enc_len rfl hx2 rfl)
            | (apply es_alloc hT; (iterate 5 exact rfl); first | ((fail_if_success (have q := g12)); intro g12) | intro _)
            | (apply es_callQ (hs := (hS.mono (by simp))); (iterate 7 exact rfl))
            | (apply es_call (hs := (FSpec.perm hadd (by (repeat (first | exact List.Perm.refl _ | (apply permC; · (repeat (first | exact sel0 | apply selS)))))))); (iterate 7 exact rfl); rintro _ _ ⟨rfl, A9, c9, rfl⟩)
            | (apply aw_draw [] [] hmix; decide +kernel)
            | (apply es_store hT; (iterate 6 exact rfl); (repeat (first | exact sel0 | apply selS)); (iterate 3 exact rfl); exact Nat.le_of_ble_eq_true rfl)
            | (apply es_load; (iterate 5 exact rfl); first | (apply ld_blk hT; exact rfl; exact rfl; (repeat (first | exact List.mem_cons_self | apply List.mem_cons_of_mem)); exact rfl; exact rfl) | (apply ld_all hT; exact rfl; exact rfl; (repeat (first | exact List.mem_cons_self | apply List.mem_cons_of_mem)); exact rfl))
            | (apply es_box; (iterate 5 exact rfl); intro _) | (apply es_alloc hT; (iterate 5 exact rfl); intro _)
            | (apply aw_condT; (iterate 2 exact rfl)) | (apply aw_condF; (iterate 2 exact rfl))
            | (apply es_case; exact rfl; all_goals intro hb; all_goals (fail_if_success (change true = true at hb)); all_goals (fail_if_success (change false = false at hb)); all_goals (try dsimp only at hb); all_goals (try simp only [hb]); all_goals (first | replace hb := of_decide_eq_true hb | replace hb := of_decide_eq_false hb | replace hb := bne_t hb | replace hb := bne_f hb | replace hb := eq_of_beq hb | replace hb := ne_of_beq_false hb | skip); all_goals (try (exfalso; omega)))
            | (apply aw_cond; exact rfl; all_goals intro hb; all_goals (try dsimp only at hb); all_goals (try simp only [hb]); all_goals (first | replace hb := of_decide_eq_true hb | replace hb := of_decide_eq_false hb | replace hb := bne_t hb | replace hb := bne_f hb | replace hb := eq_of_beq hb | replace hb := ne_of_beq_false hb | skip); all_goals (try (exfalso; omega))))
          all_goals first
            | (exfalso; omega)
            | (apply ret4; exact rfl; exact rfl; exact rfl; exact rfl
               exact ⟨.own Af s.fills.length cf 95 7 (s.fills.flatMap FillR.enc) :: .own Ag s.gones.length cg 103 3 (s.gones.flatMap GoneR.enc) :: bookTab p A9 c9 (addO { o with left := s.left } s.bk) F, by (repeat (first | exact dt_end | (apply dt_cons; · (repeat (first | exact sel0 | apply selS))) | apply dt_skip)), fun w hw => ⟨Af, cf, Ag, cg, A9, c9, rfl, rfl, hw.ownF mem0, hw.ownF mem1⟩⟩)
            | skip
        · have hrx : restX how o s = s.bk := by unfold restX; rw [if_neg hst]
          rw [hrx]
          have hcs : staysB how = false ∨ (staysB how = true ∧ s.left ≤ 0) := by
            cases h : staysB how
            · exact .inl rfl
            · refine .inr ⟨rfl, ?_⟩
              rcases Int.lt_or_le 0 s.left with h2 | h2
              · exact absurd ⟨h, h2⟩ hst
              · exact h2
          rcases hcs with hcs | ⟨hcs, hcl⟩
          all_goals
            rw [hcs] at hS
            repeat' (first
              | apply aw_seq | apply aw_region | apply aw_ret | apply aw_skip | apply aw_exit | apply aw_block | apply es_nil
              | (apply es_pure hT; (iterate 4 exact rfl)) | (apply es_skip; (iterate 3 exact rfl)) | (apply es_skip0; (iterate 2 exact rfl))
              | (apply es_i64 hT; (iterate 4 exact rfl); (iterate 2 (first | omega | (dsimp only; omega))))
              | (apply es_idx hT; (iterate 8 exact rfl); (iterate 2 omega); exact hAM)
              | (apply es_load; (iterate 5 exact rfl); exact ld_elem hT rfl rfl (hfM.reads mem0) Order.enc_len rfl hx2 rfl)
              | (apply es_alloc hT; (iterate 5 exact rfl); first | ((fail_if_success (have q := g12)); intro g12) | intro _)
              | (apply es_callQ (hs := (hS.mono (by simp))); (iterate 7 exact rfl))
              | (apply aw_draw [] [] hmix; decide +kernel)
              | (apply es_store hT; (iterate 6 exact rfl); (repeat (first | exact sel0 | apply selS)); (iterate 3 exact rfl); exact Nat.le_of_ble_eq_true rfl)
              | (apply es_load; (iterate 5 exact rfl); first | (apply ld_blk hT; exact rfl; exact rfl; (repeat (first | exact List.mem_cons_self | apply List.mem_cons_of_mem)); exact rfl; exact rfl) | (apply ld_all hT; exact rfl; exact rfl; (repeat (first | exact List.mem_cons_self | apply List.mem_cons_of_mem)); exact rfl))
              | (apply es_box; (iterate 5 exact rfl); intro _) | (apply es_alloc hT; (iterate 5 exact rfl); intro _)
              | (apply aw_condT; (iterate 2 exact rfl)) | (apply aw_condF; (iterate 2 exact rfl))
              | (apply es_case; exact rfl; all_goals intro hb; all_goals (fail_if_success (change true = true at hb)); all_goals (fail_if_success (change false = false at hb)); all_goals (try dsimp only at hb); all_goals (try simp only [hb]); all_goals (first | replace hb := of_decide_eq_true hb | replace hb := of_decide_eq_false hb | replace hb := bne_t hb | replace hb := bne_f hb | replace hb := eq_of_beq hb | replace hb := ne_of_beq_false hb | skip); all_goals (try (exfalso; omega)))
              | (apply aw_cond; exact rfl; all_goals intro hb; all_goals (try dsimp only at hb); all_goals (try simp only [hb]); all_goals (first | replace hb := of_decide_eq_true hb | replace hb := of_decide_eq_false hb | replace hb := bne_t hb | replace hb := bne_f hb | replace hb := eq_of_beq hb | replace hb := ne_of_beq_false hb | skip); all_goals (try (exfalso; omega))))
            all_goals first
              | (exfalso; omega)
              | (apply ret4; exact rfl; exact rfl; exact rfl; exact rfl
                 exact ⟨.own Af s.fills.length cf 95 7 (s.fills.flatMap FillR.enc) :: .own Ag s.gones.length cg 103 3 (s.gones.flatMap GoneR.enc) :: bookTab p A1 c1 s.bk F, by (repeat (first | exact dt_end | (apply dt_cons; · (repeat (first | exact sel0 | apply selS))) | apply dt_skip)), fun w hw => ⟨Af, cf, Ag, cg, A1, c1, rfl, rfl, hw.ownF mem0, hw.ownF mem1⟩⟩)
              | skip
      · obtain rfl : k = ms.length := by omega
        have hd1 : decide ((ms.length : Int) < (ms.length : Int)) = false := by simp
        generalize runX o l (ms.take ms.length) = s at hfc hBs hz hsf ⊢
        have hrs : doV how o l = ⟨s.fills, s.gones, s.left, 0, restX how o s⟩ := by unfold doV; rw [if_pos hw0, ← hsf]
        rw [hrs]
        by_cases hst : staysB how = true ∧ s.left > 0
        · have hrx : restX how o s = addO { o with left := s.left } s.bk := by unfold restX; rw [if_pos hst]
          rw [hrx]
          rw [hst.1] at hS
          have hst2 := hst.2
          have hadd := book_Add W (.own AM ms.length cM 29 6 (ms.flatMap Order.enc) :: .own Af s.fills.length cf 95 7 (s.fills.flatMap FillR.enc) :: .own Ag s.gones.length cg 103 3 (s.gones.flatMap GoneR.enc) :: .blk g4 29 (Order.enc { o with left := s.left }) :: F) p A1 c1 s.bk { o with left := s.left } hBs.le
          repeat' (first
            | apply aw_seq | apply aw_region | apply aw_ret | apply aw_skip | apply aw_exit | apply aw_block | apply es_nil
            | (apply es_pure hT; (iterate 4 exact rfl)) | (apply es_skip; (iterate 3 exact rfl)) | (apply es_skip0; (iterate 2 exact rfl))
            | (apply es_i64 hT; (iterate 4 exact rfl); (iterate 2 (first | omega | (dsimp only; omega))))
            | (apply es_callQ (hs := (hS.mono (by simp))); (iterate 7 exact rfl))
            | (apply es_call (hs := (FSpec.perm hadd (by (repeat (first | exact List.Perm.refl _ | (apply permC; · (repeat (first | exact sel0 | apply selS)))))))); (iterate 7 exact rfl); rintro _ _ ⟨rfl, A9, c9, rfl⟩)
            | (apply aw_draw [] [] hmix; decide +kernel)
            | (apply es_store hT; (iterate 6 exact rfl); (repeat (first | exact sel0 | apply selS)); (iterate 3 exact rfl); exact Nat.le_of_ble_eq_true rfl)
            | (apply es_load; (iterate 5 exact rfl); first | (apply ld_blk hT; exact rfl; exact rfl; (repeat (first | exact List.mem_cons_self | apply List.mem_cons_of_mem)); exact rfl; exact rfl) | (apply ld_all hT; exact rfl; exact rfl; (repeat (first | exact List.mem_cons_self | apply List.mem_cons_of_mem)); exact rfl))
            | (apply es_box; (iterate 5 exact rfl); intro _) | (apply es_alloc hT; (iterate 5 exact rfl); intro _)
            | (apply aw_condT; (iterate 2 exact rfl)) | (apply aw_condF; (iterate 2 exact rfl))
            | (apply es_case; exact rfl; all_goals intro hb; all_goals (fail_if_success (change true = true at hb)); all_goals (fail_if_success (change false = false at hb)); all_goals (try dsimp only at hb); all_goals (try simp only [hb]); all_goals (first | replace hb := of_decide_eq_true hb | replace hb := of_decide_eq_false hb | replace hb := bne_t hb | replace hb := bne_f hb | replace hb := eq_of_beq hb | replace hb := ne_of_beq_false hb | skip); all_goals (try (exfalso; omega)))
            | (apply aw_cond; exact rfl; all_goals intro hb; all_goals (try dsimp only at hb); all_goals (try simp only [hb]); all_goals (first | replace hb := of_decide_eq_true hb | replace hb := of_decide_eq_false hb | replace hb := bne_t hb | replace hb := bne_f hb | replace hb := eq_of_beq hb | replace hb := ne_of_beq_false hb | skip); all_goals (try (exfalso; omega))))
          all_goals first
            | (exfalso; omega)
            | (apply ret4; exact rfl; exact rfl; exact rfl; exact rfl
               exact ⟨.own Af s.fills.length cf 95 7 (s.fills.flatMap FillR.enc) :: .own Ag s.gones.length cg 103 3 (s.gones.flatMap GoneR.enc) :: bookTab p A9 c9 (addO { o with left := s.left } s.bk) F, by (repeat (first | exact dt_end | (apply dt_cons; · (repeat (first | exact sel0 | apply selS))) | apply dt_skip)), fun w hw => ⟨Af, cf, Ag, cg, A9, c9, rfl, rfl, hw.ownF mem0, hw.ownF mem1⟩⟩)
            | skip
        · have hrx : restX how o s = s.bk := by unfold restX; rw [if_neg hst]
          rw [hrx]
          have hcs : staysB how = false ∨ (staysB how = true ∧ s.left ≤ 0) := by
            cases h : staysB how
            · exact .inl rfl
            · refine .inr ⟨rfl, ?_⟩
              rcases Int.lt_or_le 0 s.left with h2 | h2
              · exact absurd ⟨h, h2⟩ hst
              · exact h2
          rcases hcs with hcs | ⟨hcs, hcl⟩
          all_goals
            rw [hcs] at hS
            repeat' (first
              | apply aw_seq | apply aw_region | apply aw_ret | apply aw_skip | apply aw_exit | apply aw_block | apply es_nil
              | (apply es_pure hT; (iterate 4 exact rfl)) | (apply es_skip; (iterate 3 exact rfl)) | (apply es_skip0; (iterate 2 exact rfl))
              | (apply es_i64 hT; (iterate 4 exact rfl); (iterate 2 (first | omega | (dsimp only; omega))))
              | (apply es_callQ (hs := (hS.mono (by simp))); (iterate 7 exact rfl))
              | (apply aw_draw [] [] hmix; decide +kernel)
              | (apply es_store hT; (iterate 6 exact rfl); (repeat (first | exact sel0 | apply selS)); (iterate 3 exact rfl); exact Nat.le_of_ble_eq_true rfl)
              | (apply es_load; (iterate 5 exact rfl); first | (apply ld_blk hT; exact rfl; exact rfl; (repeat (first | exact List.mem_cons_self | apply List.mem_cons_of_mem)); exact rfl; exact rfl) | (apply ld_all hT; exact rfl; exact rfl; (repeat (first | exact List.mem_cons_self | apply List.mem_cons_of_mem)); exact rfl))
              | (apply es_box; (iterate 5 exact rfl); intro _) | (apply es_alloc hT; (iterate 5 exact rfl); intro _)
              | (apply aw_condT; (iterate 2 exact rfl)) | (apply aw_condF; (iterate 2 exact rfl))
              | (apply es_case; exact rfl; all_goals intro hb; all_goals (fail_if_success (change true = true at hb)); all_goals (fail_if_success (change false = false at hb)); all_goals (try dsimp only at hb); all_goals (try simp only [hb]); all_goals (first | replace hb := of_decide_eq_true hb | replace hb := of_decide_eq_false hb | replace hb := bne_t hb | replace hb := bne_f hb | replace hb := eq_of_beq hb | replace hb := ne_of_beq_false hb | skip); all_goals (try (exfalso; omega)))
              | (apply aw_cond; exact rfl; all_goals intro hb; all_goals (try dsimp only at hb); all_goals (try simp only [hb]); all_goals (first | replace hb := of_decide_eq_true hb | replace hb := of_decide_eq_false hb | replace hb := bne_t hb | replace hb := bne_f hb | replace hb := eq_of_beq hb | replace hb := ne_of_beq_false hb | skip); all_goals (try (exfalso; omega))))
            all_goals first
              | (exfalso; omega)
              | (apply ret4; exact rfl; exact rfl; exact rfl; exact rfl
                 exact ⟨.own Af s.fills.length cf 95 7 (s.fills.flatMap FillR.enc) :: .own Ag s.gones.length cg 103 3 (s.gones.flatMap GoneR.enc) :: bookTab p A1 c1 s.bk F, by (repeat (first | exact dt_end | (apply dt_cons; · (repeat (first | exact sel0 | apply selS))) | apply dt_skip)), fun w hw => ⟨Af, cf, Ag, cg, A1, c1, rfl, rfl, hw.ownF mem0, hw.ownF mem1⟩⟩)
              | skip
    · by_cases hlt : k < ms.length
      · obtain ⟨x, hx⟩ : ∃ x, ms[k]? = some x := ⟨ms[k]'(by omega), List.getElem?_eq_getElem (by omega)⟩
        have hx2 : ms[(k : Int).toNat]? = some x := by simpa using hx
        have hAM := hfM.some_ (by omega)
        have hd1 : decide ((k : Int) < (ms.length : Int)) = true := by simp; omega
        have hst := runX_step (o := o) (l := l) hx
        have hxl := hlf x (List.mem_of_getElem? hx)
        generalize runX o l (ms.take k) = s at hfc hBs hz hst ⊢
        have hz2 : (s.left == 0) = false := beq_eq_false_iff_ne.2 hz
        unfold stepX at hst
        rw [if_neg hz] at hst
        by_cases hown : x.owner = o.owner
        · rw [if_pos hown] at hst
          have hdr := fun g12 => book_Drop W (.blk g12 29 x.enc :: .own AM ms.length cM 29 6 (ms.flatMap Order.enc) :: .own Af s.fills.length cf 95 7 (s.fills.flatMap FillR.enc) :: .own Ag s.gones.length cg 103 3 (s.gones.flatMap GoneR.enc) :: .blk g4 29 (Order.enc { o with left := s.left }) :: F) p A1 c1 s.bk x.id hBs.le
          repeat' (first
            | apply aw_seq | apply aw_region | apply aw_ret | apply aw_skip | apply aw_exit | apply aw_block | apply es_nil
            | (apply es_pure hT; (iterate 4 exact rfl)) | (apply es_skip; (iterate 3 exact rfl)) | (apply es_skip0; (iterate 2 exact rfl))
            | (apply es_i64 hT; (iterate 4 exact rfl); (iterate 2 (first | omega | (dsimp only; omega))))
            | (apply aw_draw [] [] hmix; decide +kernel)
            | (apply es_idx hT; (iterate 8 exact rfl); (iterate 2 omega); exact hAM)
            | (apply es_load; (iterate 5 exact rfl); exact ld_elem hT rfl rfl (hfM.reads mem0) Order.enc_len rfl hx2 rfl)
            | (apply es_alloc hT; (iterate 5 exact rfl); first | ((fail_if_success (have q := g12)); intro g12) | intro _)
            | (apply es_store hT; (iterate 6 exact rfl); (repeat (first | exact sel0 | apply selS)); (iterate 3 exact rfl); exact Nat.le_of_ble_eq_true rfl)
            | (apply es_call (hs := (FSpec.perm (hdr g12) (by (repeat (first | exact List.Perm.refl _ | (apply permC; · (repeat (first | exact sel0 | apply selS)))))))); (iterate 7 exact rfl); rintro _ _ ⟨rfl, A9, c9, rfl⟩)
            | (apply es_buildS hT (cs := GoneR.enc ⟨x.id, x.owner, x.left⟩); (iterate 4 exact rfl))
            | (apply es_buildSlice hT; (iterate 12 exact rfl); intro g)
            | (apply es_append hT; (iterate 10 exact rfl); (repeat (first | exact sel0 | apply selS)); exact Reads.own mem0 rfl (GoneR.enc_one ⟨x.id, x.owner, x.left⟩); omega; (show (_ : Nat) * 24 ≤ _; omega); intro A' c')
            | (apply es_load; (iterate 5 exact rfl); first | (apply ld_blk hT; exact rfl; exact rfl; (repeat (first | exact List.mem_cons_self | apply List.mem_cons_of_mem)); exact rfl; exact rfl) | (apply ld_all hT; exact rfl; exact rfl; (repeat (first | exact List.mem_cons_self | apply List.mem_cons_of_mem)); exact rfl))
            | (apply es_box; (iterate 5 exact rfl); intro _) | (apply es_alloc hT; (iterate 5 exact rfl); intro _)
            | (apply aw_condT; (iterate 2 exact rfl)) | (apply aw_condF; (iterate 2 exact rfl))
            | (apply es_case; exact rfl; all_goals intro hb; all_goals (fail_if_success (change true = true at hb)); all_goals (fail_if_success (change false = false at hb)); all_goals (try dsimp only at hb); all_goals (try simp only [hb]); all_goals (first | replace hb := of_decide_eq_true hb | replace hb := of_decide_eq_false hb | replace hb := bne_t hb | replace hb := bne_f hb | replace hb := eq_of_beq hb | replace hb := ne_of_beq_false hb | skip); all_goals (try (exfalso; omega)))
            | (apply aw_cond; exact rfl; all_goals intro hb; all_goals (try dsimp only at hb); all_goals (try simp only [hb]); all_goals (first | replace hb := of_decide_eq_true hb | replace hb := of_decide_eq_false hb | replace hb := bne_t hb | replace hb := bne_f hb | replace hb := eq_of_beq hb | replace hb := ne_of_beq_false hb | skip); all_goals (try (exfalso; omega))))
          all_goals first
            | (exfalso; omega)
            | (refine loopq_end (k + 1, Af, cf, A', c', A9, c9) (by (try dsimp only); omega) (by (try dsimp only); omega) ?_ ?_
               · dsimp only; rw [hst]; exact ⟨rfl, rfl, rfl, rfl, by rw [List.length_append]; rfl, rfl, rfl, rfl, trivial⟩
               · dsimp only; rw [hst]; dsimp only; rw [List.length_append, List.flatMap_append]; (repeat (first | exact dt_end | (apply dt_cons; · (repeat (first | exact sel0 | apply selS))) | apply dt_skip)))
            | skip
        · rw [if_neg hown] at hst
          have htr := fun g12 => cross_trade W (.blk g12 29 x.enc :: .own AM ms.length cM 29 6 (ms.flatMap Order.enc) :: .own Af s.fills.length cf 95 7 (s.fills.flatMap FillR.enc) :: .own Ag s.gones.length cg 103 3 (s.gones.flatMap GoneR.enc) :: F) p g4 A1 c1 s.bk { o with left := s.left } x hBs (by dsimp only; omega) hxl
          dsimp only at htr hst
          generalize hn : min s.left x.left = n at htr hst
          repeat' (first
            | apply aw_seq | apply aw_region | apply aw_ret | apply aw_skip | apply aw_exit | apply aw_block | apply es_nil
            | (apply es_pure hT; (iterate 4 exact rfl)) | (apply es_skip; (iterate 3 exact rfl)) | (apply es_skip0; (iterate 2 exact rfl))
            | (apply es_i64 hT; (iterate 4 exact rfl); (iterate 2 (first | omega | (dsimp only; omega))))
            | (apply aw_draw [] [] hmix; decide +kernel)
            | (apply es_idx hT; (iterate 8 exact rfl); (iterate 2 omega); exact hAM)
            | (apply es_load; (iterate 5 exact rfl); exact ld_elem hT rfl rfl (hfM.reads mem0) Order.enc_len rfl hx2 rfl)
            | (apply es_alloc hT; (iterate 5 exact rfl); first | ((fail_if_success (have q := g12)); intro g12) | intro _)
            | (apply es_store hT; (iterate 6 exact rfl); (repeat (first | exact sel0 | apply selS)); (iterate 3 exact rfl); exact Nat.le_of_ble_eq_true rfl)
            | (apply es_call (hs := (FSpec.perm (htr g12) (by (repeat (first | exact List.Perm.refl _ | (apply permC; · (repeat (first | exact sel0 | apply selS)))))))); (iterate 7 exact rfl); rintro _ _ ⟨rfl, A9, c9, rfl⟩)
            | (apply es_buildSlice hT; (iterate 12 exact rfl); intro g)
            | (apply es_append hT; (iterate 10 exact rfl); (repeat (first | exact sel0 | apply selS)); exact Reads.own mem0 rfl (FillR.enc_one ⟨x.id, o.id, x.owner, o.owner, x.price, n, x.left - n⟩); omega; (show (_ : Nat) * 56 ≤ _; omega); intro A' c')
            | (apply es_load; (iterate 5 exact rfl); first | (apply ld_blk hT; exact rfl; exact rfl; (repeat (first | exact List.mem_cons_self | apply List.mem_cons_of_mem)); exact rfl; exact rfl) | (apply ld_all hT; exact rfl; exact rfl; (repeat (first | exact List.mem_cons_self | apply List.mem_cons_of_mem)); exact rfl))
            | (apply es_box; (iterate 5 exact rfl); intro _) | (apply es_alloc hT; (iterate 5 exact rfl); intro _)
            | (apply aw_condT; (iterate 2 exact rfl)) | (apply aw_condF; (iterate 2 exact rfl))
            | (apply es_case; exact rfl; all_goals intro hb; all_goals (fail_if_success (change true = true at hb)); all_goals (fail_if_success (change false = false at hb)); all_goals (try dsimp only at hb); all_goals (try simp only [hb]); all_goals (first | replace hb := of_decide_eq_true hb | replace hb := of_decide_eq_false hb | replace hb := bne_t hb | replace hb := bne_f hb | replace hb := eq_of_beq hb | replace hb := ne_of_beq_false hb | skip); all_goals (try (exfalso; omega)))
            | (apply aw_cond; exact rfl; all_goals intro hb; all_goals (try dsimp only at hb); all_goals (try simp only [hb]); all_goals (first | replace hb := of_decide_eq_true hb | replace hb := of_decide_eq_false hb | replace hb := bne_t hb | replace hb := bne_f hb | replace hb := eq_of_beq hb | replace hb := ne_of_beq_false hb | skip); all_goals (try (exfalso; omega))))
          all_goals first
            | (exfalso; omega)
            | (refine loopq_end (k + 1, A', c', Ag, cg, A9, c9) (by (try dsimp only); omega) (by (try dsimp only); omega) ?_ ?_
               · dsimp only; rw [hst]; exact ⟨rfl, rfl, rfl, by rw [List.length_append]; rfl, rfl, rfl, rfl, rfl, trivial⟩
               · dsimp only; rw [hst]; dsimp only; rw [List.length_append, List.flatMap_append]; (repeat (first | exact dt_end | (apply dt_cons; · (repeat (first | exact sel0 | apply selS))) | apply dt_skip)))
            | skip
      · obtain rfl : k = ms.length := by omega
        have hd1 : decide ((ms.length : Int) < (ms.length : Int)) = false := by simp
        have hsf : runX o l (ms.take ms.length) = runX o l (meetsO how o l) := by rw [hms, List.take_length]
        generalize runX o l (ms.take ms.length) = s at hfc hBs hz hsf ⊢
        have hrs : doV how o l = ⟨s.fills, s.gones, s.left, 0, restX how o s⟩ := by unfold doV; rw [if_pos hw0, ← hsf]
        rw [hrs]
        by_cases hst : staysB how = true ∧ s.left > 0
        · have hrx : restX how o s = addO { o with left := s.left } s.bk := by unfold restX; rw [if_pos hst]
          rw [hrx]
          rw [hst.1] at hS
          have hst2 := hst.2
          have hadd := book_Add W (.own AM ms.length cM 29 6 (ms.flatMap Order.enc) :: .own Af s.fills.length cf 95 7 (s.fills.flatMap FillR.enc) :: .own Ag s.gones.length cg 103 3 (s.gones.flatMap GoneR.enc) :: .blk g4 29 (Order.enc { o with left := s.left }) :: F) p A1 c1 s.bk { o with left := s.left } hBs.le
          repeat' (first
            | apply aw_seq | apply aw_region | apply aw_ret | apply aw_skip | apply aw_exit | apply aw_block | apply es_nil
            | (apply es_pure hT; (iterate 4 exact rfl)) | (apply es_skip; (iterate 3 exact rfl)) | (apply es_skip0; (iterate 2 exact rfl))
            | (apply es_i64 hT; (iterate 4 exact rfl); (iterate 2 (first | omega | (dsimp only; omega))))
            | (apply es_callQ (hs := (hS.mono (by simp))); (iterate 7 exact rfl))
            | (apply es_call (hs := (FSpec.perm hadd (by (repeat (first | exact List.Perm.refl _ | (apply permC; · (repeat (first | exact sel0 | apply selS)))))))); (iterate 7 exact rfl); rintro _ _ ⟨rfl, A9, c9, rfl⟩)
            | (apply aw_draw [] [] hmix; decide +kernel)
            | (apply es_store hT; (iterate 6 exact rfl); (repeat (first | exact sel0 | apply selS)); (iterate 3 exact rfl); exact Nat.le_of_ble_eq_true rfl)
            | (apply es_load; (iterate 5 exact rfl); first | (apply ld_blk hT; exact rfl; exact rfl; (repeat (first | exact List.mem_cons_self | apply List.mem_cons_of_mem)); exact rfl; exact rfl) | (apply ld_all hT; exact rfl; exact rfl; (repeat (first | exact List.mem_cons_self | apply List.mem_cons_of_mem)); exact rfl))
            | (apply es_box; (iterate 5 exact rfl); intro _) | (apply es_alloc hT; (iterate 5 exact rfl); intro _)
            | (apply aw_condT; (iterate 2 exact rfl)) | (apply aw_condF; (iterate 2 exact rfl))
            | (apply es_case; exact rfl; all_goals intro hb; all_goals (fail_if_success (change true = true at hb)); all_goals (fail_if_success (change false = false at hb)); all_goals (try dsimp only at hb); all_goals (try simp only [hb]); all_goals (first | replace hb := of_decide_eq_true hb | replace hb := of_decide_eq_false hb | replace hb := bne_t hb | replace hb := bne_f hb | replace hb := eq_of_beq hb | replace hb := ne_of_beq_false hb | skip); all_goals (try (exfalso; omega)))
            | (apply aw_cond; exact rfl; all_goals intro hb; all_goals (try dsimp only at hb); all_goals (try simp only [hb]); all_goals (first | replace hb := of_decide_eq_true hb | replace hb := of_decide_eq_false hb | replace hb := bne_t hb | replace hb := bne_f hb | replace hb := eq_of_beq hb | replace hb := ne_of_beq_false hb | skip); all_goals (try (exfalso; omega))))
          all_goals first
            | (exfalso; omega)
            | (apply ret4; exact rfl; exact rfl; exact rfl; exact rfl
               exact ⟨.own Af s.fills.length cf 95 7 (s.fills.flatMap FillR.enc) :: .own Ag s.gones.length cg 103 3 (s.gones.flatMap GoneR.enc) :: bookTab p A9 c9 (addO { o with left := s.left } s.bk) F, by (repeat (first | exact dt_end | (apply dt_cons; · (repeat (first | exact sel0 | apply selS))) | apply dt_skip)), fun w hw => ⟨Af, cf, Ag, cg, A9, c9, rfl, rfl, hw.ownF mem0, hw.ownF mem1⟩⟩)
            | skip
        · have hrx : restX how o s = s.bk := by unfold restX; rw [if_neg hst]
          rw [hrx]
          have hcs : staysB how = false ∨ (staysB how = true ∧ s.left ≤ 0) := by
            cases h : staysB how
            · exact .inl rfl
            · refine .inr ⟨rfl, ?_⟩
              rcases Int.lt_or_le 0 s.left with h2 | h2
              · exact absurd ⟨h, h2⟩ hst
              · exact h2
          rcases hcs with hcs | ⟨hcs, hcl⟩
          all_goals
            rw [hcs] at hS
            repeat' (first
              | apply aw_seq | apply aw_region | apply aw_ret | apply aw_skip | apply aw_exit | apply aw_block | apply es_nil
              | (apply es_pure hT; (iterate 4 exact rfl)) | (apply es_skip; (iterate 3 exact rfl)) | (apply es_skip0; (iterate 2 exact rfl))
              | (apply es_i64 hT; (iterate 4 exact rfl); (iterate 2 (first | omega | (dsimp only; omega))))
              | (apply es_callQ (hs := (hS.mono (by simp))); (iterate 7 exact rfl))
              | (apply aw_draw [] [] hmix; decide +kernel)
              | (apply es_store hT; (iterate 6 exact rfl); (repeat (first | exact sel0 | apply selS)); (iterate 3 exact rfl); exact Nat.le_of_ble_eq_true rfl)
              | (apply es_load; (iterate 5 exact rfl); first | (apply ld_blk hT; exact rfl; exact rfl; (repeat (first | exact List.mem_cons_self | apply List.mem_cons_of_mem)); exact rfl; exact rfl) | (apply ld_all hT; exact rfl; exact rfl; (repeat (first | exact List.mem_cons_self | apply List.mem_cons_of_mem)); exact rfl))
              | (apply es_box; (iterate 5 exact rfl); intro _) | (apply es_alloc hT; (iterate 5 exact rfl); intro _)
              | (apply aw_condT; (iterate 2 exact rfl)) | (apply aw_condF; (iterate 2 exact rfl))
              | (apply es_case; exact rfl; all_goals intro hb; all_goals (fail_if_success (change true = true at hb)); all_goals (fail_if_success (change false = false at hb)); all_goals (try dsimp only at hb); all_goals (try simp only [hb]); all_goals (first | replace hb := of_decide_eq_true hb | replace hb := of_decide_eq_false hb | replace hb := bne_t hb | replace hb := bne_f hb | replace hb := eq_of_beq hb | replace hb := ne_of_beq_false hb | skip); all_goals (try (exfalso; omega)))
              | (apply aw_cond; exact rfl; all_goals intro hb; all_goals (try dsimp only at hb); all_goals (try simp only [hb]); all_goals (first | replace hb := of_decide_eq_true hb | replace hb := of_decide_eq_false hb | replace hb := bne_t hb | replace hb := bne_f hb | replace hb := eq_of_beq hb | replace hb := ne_of_beq_false hb | skip); all_goals (try (exfalso; omega))))
            all_goals first
              | (exfalso; omega)
              | (apply ret4; exact rfl; exact rfl; exact rfl; exact rfl
                 exact ⟨.own Af s.fills.length cf 95 7 (s.fills.flatMap FillR.enc) :: .own Ag s.gones.length cg 103 3 (s.gones.flatMap GoneR.enc) :: bookTab p A1 c1 s.bk F, by (repeat (first | exact dt_end | (apply dt_cons; · (repeat (first | exact sel0 | apply selS))) | apply dt_skip)), fun w hw => ⟨Af, cf, Ag, cg, A1, c1, rfl, rfl, hw.ownF mem0, hw.ownF mem1⟩⟩)
              | skip
  · have hd : doV how o l = ⟨[], [], 0, wrongV how o l, l⟩ := by unfold doV; rw [if_neg hw0]
    rw [hd]
    have hne : (wrongV how o l != 0) = true := by simp [hw0]
    generalize wrongV how o l = e at hW' hw0 hne
    refine aw_conv (fun w hw => ⟨_, (hw.own_nil 103 3).own_nil 95 7, ?_⟩)
    repeat' (first
      | apply aw_seq | apply aw_region | apply aw_ret | apply aw_skip | apply aw_exit | apply aw_block | apply es_nil
      | (apply es_pure hT; (iterate 4 exact rfl)) | (apply es_skip; (iterate 3 exact rfl)) | (apply es_skip0; (iterate 2 exact rfl))
      | (apply es_i64 hT; (iterate 4 exact rfl); (iterate 2 (first | omega | (dsimp only; omega))))
      | (apply aw_draw [] [] hmix; decide +kernel)
      | (apply es_box; (iterate 5 exact rfl); intro g4)
      | (apply es_callQ (hs := (hW' _ (by (repeat (first | exact List.mem_cons_self | apply List.mem_cons_of_mem))) (by (repeat (first | exact List.mem_cons_self | apply List.mem_cons_of_mem))))); (iterate 7 exact rfl))
      | (apply es_load; (iterate 5 exact rfl); first | (apply ld_blk hT; exact rfl; exact rfl; (repeat (first | exact List.mem_cons_self | apply List.mem_cons_of_mem)); exact rfl; exact rfl) | (apply ld_all hT; exact rfl; exact rfl; (repeat (first | exact List.mem_cons_self | apply List.mem_cons_of_mem)); exact rfl))
      | (apply es_box; (iterate 5 exact rfl); intro _) | (apply es_alloc hT; (iterate 5 exact rfl); intro _)
      | (apply aw_condT; (iterate 2 exact rfl)) | (apply aw_condF; (iterate 2 exact rfl))
      | (apply es_case; exact rfl; all_goals intro hb; all_goals (fail_if_success (change true = true at hb)); all_goals (fail_if_success (change false = false at hb)); all_goals (try dsimp only at hb); all_goals (try simp only [hb]); all_goals (first | replace hb := of_decide_eq_true hb | replace hb := of_decide_eq_false hb | replace hb := bne_t hb | replace hb := bne_f hb | replace hb := eq_of_beq hb | replace hb := ne_of_beq_false hb | skip); all_goals (try (exfalso; omega)))
      | (apply aw_cond; exact rfl; all_goals intro hb; all_goals (try dsimp only at hb); all_goals (try simp only [hb]); all_goals (first | replace hb := of_decide_eq_true hb | replace hb := of_decide_eq_false hb | replace hb := bne_t hb | replace hb := bne_f hb | replace hb := eq_of_beq hb | replace hb := ne_of_beq_false hb | skip); all_goals (try (exfalso; omega))))
    all_goals first
      | (exfalso; omega)
      | (apply ret4; exact rfl; exact rfl; exact rfl; exact rfl
         exact ⟨.own none 0 0 95 7 [] :: .own none 0 0 103 3 [] :: bookTab p A c l F, by (repeat (first | exact dt_end | (apply dt_cons; · (repeat (first | exact sel0 | apply selS))) | apply dt_skip)), fun w hw => ⟨none, 0, none, 0, A, c, rfl, rfl, hw.ownF mem0, hw.ownF mem1⟩⟩)
      | (exfalso; simp_all; done)
      | skip

set_option maxHeartbeats 4000000 in
theorem ref15_May (W : World) (p : Nat) (A : Option Addr) (c : Nat) (l : List Order) (o : Order) (how : Int) (hB : BookB l) :
    QSpec Try.prog W 96 [.pointer (some ⟨p, 0, none⟩), .agg o.enc.toArray, .int .i64 how] (refB p A c l []) (.int .i64 (wrongV how o l)) := by
  refine QSpec.ofD (fun h' hs => ?_)
  have m1 := hs _ mem0
  have m2 := hs _ mem1
  have hbl := hB.len
  have hMay := ref14_May W (asX how o)
  have hHas := fun h m1 m2 => (ref14_Has W p A c l o.id o.seq hB.le).mono (h' := h) (memPairB m1 m2)
  obtain ⟨y, b, hyb⟩ := gotO_is (meetsO how o l).head?
  have hF := fun h m1 m2 => ((ref15_first W p A c l o how hB).cast hyb).mono (h' := h) (memPairB m1 m2)
  refine spec_body Try.func96 rfl rfl Try.results96 Try.ntmps96 rfl rfl ?_
  by_cases h4 : how = 4
  · have has : asX how o = { o with price := 1 } := by unfold asX; rw [if_pos h4]
    by_cases h1 : how < 0 ∨ how > 4
    · have hv : wrongV how o l = 1 := by
        unfold wrongV newB
        rcases h1 with h | h
        · rw [show decide (0 ≤ how) = false by simp; omega]; rfl
        · rw [show decide (how ≤ 4) = false by simp; omega]; simp
      rw [hv]
      repeat' (first
        | apply aw_seq | apply aw_region | apply aw_ret | apply aw_skip | apply aw_exit | apply aw_block | apply es_nil
        | (apply es_pure hT; (iterate 4 exact rfl)) | (apply es_skip; (iterate 3 exact rfl)) | (apply es_skip0; (iterate 2 exact rfl))
        | (apply es_i64 hT; (iterate 4 exact rfl); (iterate 2 (first | omega | (dsimp only; omega))))
        | (apply es_box; (iterate 5 exact rfl); intro g4)
        | (apply es_alloc hT; (iterate 5 exact rfl); first | ((fail_if_success (have q := g7)); intro g7) | ((fail_if_success (have q := g8)); intro g8) | intro _)
        | (apply es_callQ (hs := (hMay.mono (by simp))); (iterate 7 exact rfl))
        | (apply es_callQ (hs := (hHas _ (.tail _ (.tail _ m1)) (.tail _ (.tail _ m2)))); (iterate 7 exact rfl))
        | (apply es_callQ (hs := (hF _ (.tail _ (.tail _ m1)) (.tail _ (.tail _ m2)))); (iterate 7 exact rfl))
        | (apply aw_draw [65] [] hmix; decide +kernel)
        | (apply es_store hT; (iterate 6 exact rfl); (repeat (first | exact sel0 | apply selS)); (iterate 3 exact rfl); exact Nat.le_of_ble_eq_true rfl)
        | (apply es_load; (iterate 5 exact rfl); first | (apply ld_blk hT; exact rfl; exact rfl; (repeat (first | exact List.mem_cons_self | exact m1 | apply List.mem_cons_of_mem)); exact rfl; exact rfl) | (apply ld_all hT; exact rfl; exact rfl; (repeat (first | exact List.mem_cons_self | exact m1 | apply List.mem_cons_of_mem)); exact rfl))
        | (apply es_box; (iterate 5 exact rfl); intro _) | (apply es_alloc hT; (iterate 5 exact rfl); intro _)
        | (apply aw_condT; (iterate 2 exact rfl)) | (apply aw_condF; (iterate 2 exact rfl))
        | (apply es_case; exact rfl; all_goals intro hb; all_goals (fail_if_success (change true = true at hb)); all_goals (fail_if_success (change false = false at hb)); all_goals (try dsimp only at hb); all_goals (try simp only [hb]); all_goals (first | replace hb := of_decide_eq_true hb | replace hb := of_decide_eq_false hb | replace hb := bne_t hb | replace hb := bne_f hb | replace hb := eq_of_beq hb | replace hb := ne_of_beq_false hb | skip); all_goals (try (exfalso; omega)))
        | (apply aw_cond; exact rfl; all_goals intro hb; all_goals (try dsimp only at hb); all_goals (try simp only [hb]); all_goals (first | replace hb := of_decide_eq_true hb | replace hb := of_decide_eq_false hb | replace hb := bne_t hb | replace hb := bne_f hb | replace hb := eq_of_beq hb | replace hb := ne_of_beq_false hb | skip); all_goals (try (exfalso; omega))))
      all_goals first
        | (exfalso; omega)
        | (apply ret1; exact rfl; exact ⟨rfl, by (repeat (first | exact dt_end | (apply dt_cons; · (repeat (first | exact sel0 | apply selS))) | apply dt_skip))⟩)
        | skip
    by_cases h2 : how = 4 ∧ o.price ≠ 0
    · have hv : wrongV how o l = 1 := by
        unfold wrongV newB
        have e : (!(how == 4 && !(o.price == 0))) = false := by simp [h2.1, h2.2]
        rw [e]; simp
      rw [hv]
      have hp1 := h2.1
      have hp2 := h2.2
      repeat' (first
        | apply aw_seq | apply aw_region | apply aw_ret | apply aw_skip | apply aw_exit | apply aw_block | apply es_nil
        | (apply es_pure hT; (iterate 4 exact rfl)) | (apply es_skip; (iterate 3 exact rfl)) | (apply es_skip0; (iterate 2 exact rfl))
        | (apply es_i64 hT; (iterate 4 exact rfl); (iterate 2 (first | omega | (dsimp only; omega))))
        | (apply es_box; (iterate 5 exact rfl); intro g4)
        | (apply es_alloc hT; (iterate 5 exact rfl); first | ((fail_if_success (have q := g7)); intro g7) | ((fail_if_success (have q := g8)); intro g8) | intro _)
        | (apply es_callQ (hs := (hMay.mono (by simp))); (iterate 7 exact rfl))
        | (apply es_callQ (hs := (hHas _ (.tail _ (.tail _ m1)) (.tail _ (.tail _ m2)))); (iterate 7 exact rfl))
        | (apply es_callQ (hs := (hF _ (.tail _ (.tail _ m1)) (.tail _ (.tail _ m2)))); (iterate 7 exact rfl))
        | (apply aw_draw [65] [] hmix; decide +kernel)
        | (apply es_store hT; (iterate 6 exact rfl); (repeat (first | exact sel0 | apply selS)); (iterate 3 exact rfl); exact Nat.le_of_ble_eq_true rfl)
        | (apply es_load; (iterate 5 exact rfl); first | (apply ld_blk hT; exact rfl; exact rfl; (repeat (first | exact List.mem_cons_self | exact m1 | apply List.mem_cons_of_mem)); exact rfl; exact rfl) | (apply ld_all hT; exact rfl; exact rfl; (repeat (first | exact List.mem_cons_self | exact m1 | apply List.mem_cons_of_mem)); exact rfl))
        | (apply es_box; (iterate 5 exact rfl); intro _) | (apply es_alloc hT; (iterate 5 exact rfl); intro _)
        | (apply aw_condT; (iterate 2 exact rfl)) | (apply aw_condF; (iterate 2 exact rfl))
        | (apply es_case; exact rfl; all_goals intro hb; all_goals (fail_if_success (change true = true at hb)); all_goals (fail_if_success (change false = false at hb)); all_goals (try dsimp only at hb); all_goals (try simp only [hb]); all_goals (first | replace hb := of_decide_eq_true hb | replace hb := of_decide_eq_false hb | replace hb := bne_t hb | replace hb := bne_f hb | replace hb := eq_of_beq hb | replace hb := ne_of_beq_false hb | skip); all_goals (try (exfalso; omega)))
        | (apply aw_cond; exact rfl; all_goals intro hb; all_goals (try dsimp only at hb); all_goals (try simp only [hb]); all_goals (first | replace hb := of_decide_eq_true hb | replace hb := of_decide_eq_false hb | replace hb := bne_t hb | replace hb := bne_f hb | replace hb := eq_of_beq hb | replace hb := ne_of_beq_false hb | skip); all_goals (try (exfalso; omega))))
      all_goals first
        | (exfalso; omega)
        | (apply ret1; exact rfl; exact ⟨rfl, by (repeat (first | exact dt_end | (apply dt_cons; · (repeat (first | exact sel0 | apply selS))) | apply dt_skip))⟩)
        | skip
    have hnw : newB how o l = (okO (asX how o) && decide (idxOf (clashO o) l < 0)) := by
      unfold newB
      rw [show decide (0 ≤ how) = true by simp; omega, show decide (how ≤ 4) = true by simp; omega, show (!(how == 4 && !(o.price == 0))) = true by simp; omega]
      simp
    cases hok : okO (asX how o)
    · have hv : wrongV how o l = 1 := by unfold wrongV; rw [if_pos (by rw [hnw, hok]; rfl)]
      rw [hv]
      rw [hok] at hMay
      rw [has] at hMay
      repeat' (first
        | apply aw_seq | apply aw_region | apply aw_ret | apply aw_skip | apply aw_exit | apply aw_block | apply es_nil
        | (apply es_pure hT; (iterate 4 exact rfl)) | (apply es_skip; (iterate 3 exact rfl)) | (apply es_skip0; (iterate 2 exact rfl))
        | (apply es_i64 hT; (iterate 4 exact rfl); (iterate 2 (first | omega | (dsimp only; omega))))
        | (apply es_box; (iterate 5 exact rfl); intro g4)
        | (apply es_alloc hT; (iterate 5 exact rfl); first | ((fail_if_success (have q := g7)); intro g7) | ((fail_if_success (have q := g8)); intro g8) | intro _)
        | (apply es_callQ (hs := (hMay.mono (by simp))); (iterate 7 exact rfl))
        | (apply es_callQ (hs := (hHas _ (.tail _ (.tail _ m1)) (.tail _ (.tail _ m2)))); (iterate 7 exact rfl))
        | (apply es_callQ (hs := (hF _ (.tail _ (.tail _ m1)) (.tail _ (.tail _ m2)))); (iterate 7 exact rfl))
        | (apply aw_draw [65] [] hmix; decide +kernel)
        | (apply es_store hT; (iterate 6 exact rfl); (repeat (first | exact sel0 | apply selS)); (iterate 3 exact rfl); exact Nat.le_of_ble_eq_true rfl)
        | (apply es_load; (iterate 5 exact rfl); first | (apply ld_blk hT; exact rfl; exact rfl; (repeat (first | exact List.mem_cons_self | exact m1 | apply List.mem_cons_of_mem)); exact rfl; exact rfl) | (apply ld_all hT; exact rfl; exact rfl; (repeat (first | exact List.mem_cons_self | exact m1 | apply List.mem_cons_of_mem)); exact rfl))
        | (apply es_box; (iterate 5 exact rfl); intro _) | (apply es_alloc hT; (iterate 5 exact rfl); intro _)
        | (apply aw_condT; (iterate 2 exact rfl)) | (apply aw_condF; (iterate 2 exact rfl))
        | (apply es_case; exact rfl; all_goals intro hb; all_goals (fail_if_success (change true = true at hb)); all_goals (fail_if_success (change false = false at hb)); all_goals (try dsimp only at hb); all_goals (try simp only [hb]); all_goals (first | replace hb := of_decide_eq_true hb | replace hb := of_decide_eq_false hb | replace hb := bne_t hb | replace hb := bne_f hb | replace hb := eq_of_beq hb | replace hb := ne_of_beq_false hb | skip); all_goals (try (exfalso; omega)))
        | (apply aw_cond; exact rfl; all_goals intro hb; all_goals (try dsimp only at hb); all_goals (try simp only [hb]); all_goals (first | replace hb := of_decide_eq_true hb | replace hb := of_decide_eq_false hb | replace hb := bne_t hb | replace hb := bne_f hb | replace hb := eq_of_beq hb | replace hb := ne_of_beq_false hb | skip); all_goals (try (exfalso; omega))))
      all_goals first
        | (exfalso; omega)
        | (apply ret1; exact rfl; exact ⟨rfl, by (repeat (first | exact dt_end | (apply dt_cons; · (repeat (first | exact sel0 | apply selS))) | apply dt_skip))⟩)
        | skip
    rw [hok] at hMay
    rw [has] at hMay
    have hcs : hasIS o.id o.seq = clashO o := by funext x; rfl
    rcases Int.lt_or_le (idxOf (clashO o) l) 0 with hcl | hcl
    rotate_left
    · have hv : wrongV how o l = 1 := by
        unfold wrongV
        rw [if_pos (by rw [hnw, show decide (idxOf (clashO o) l < 0) = false by simp; omega, Bool.and_false])]
      rw [hv]
      have hHas := fun h m1 m2 => (hHas h m1 m2).cast (u := .bool true) (by rw [hcs, decide_eq_true hcl])
      repeat' (first
        | apply aw_seq | apply aw_region | apply aw_ret | apply aw_skip | apply aw_exit | apply aw_block | apply es_nil
        | (apply es_pure hT; (iterate 4 exact rfl)) | (apply es_skip; (iterate 3 exact rfl)) | (apply es_skip0; (iterate 2 exact rfl))
        | (apply es_i64 hT; (iterate 4 exact rfl); (iterate 2 (first | omega | (dsimp only; omega))))
        | (apply es_box; (iterate 5 exact rfl); intro g4)
        | (apply es_alloc hT; (iterate 5 exact rfl); first | ((fail_if_success (have q := g7)); intro g7) | ((fail_if_success (have q := g8)); intro g8) | intro _)
        | (apply es_callQ (hs := (hMay.mono (by simp))); (iterate 7 exact rfl))
        | (apply es_callQ (hs := (hHas _ (.tail _ (.tail _ m1)) (.tail _ (.tail _ m2)))); (iterate 7 exact rfl))
        | (apply es_callQ (hs := (hF _ (.tail _ (.tail _ m1)) (.tail _ (.tail _ m2)))); (iterate 7 exact rfl))
        | (apply aw_draw [65] [] hmix; decide +kernel)
        | (apply es_store hT; (iterate 6 exact rfl); (repeat (first | exact sel0 | apply selS)); (iterate 3 exact rfl); exact Nat.le_of_ble_eq_true rfl)
        | (apply es_load; (iterate 5 exact rfl); first | (apply ld_blk hT; exact rfl; exact rfl; (repeat (first | exact List.mem_cons_self | exact m1 | apply List.mem_cons_of_mem)); exact rfl; exact rfl) | (apply ld_all hT; exact rfl; exact rfl; (repeat (first | exact List.mem_cons_self | exact m1 | apply List.mem_cons_of_mem)); exact rfl))
        | (apply es_box; (iterate 5 exact rfl); intro _) | (apply es_alloc hT; (iterate 5 exact rfl); intro _)
        | (apply aw_condT; (iterate 2 exact rfl)) | (apply aw_condF; (iterate 2 exact rfl))
        | (apply es_case; exact rfl; all_goals intro hb; all_goals (fail_if_success (change true = true at hb)); all_goals (fail_if_success (change false = false at hb)); all_goals (try dsimp only at hb); all_goals (try simp only [hb]); all_goals (first | replace hb := of_decide_eq_true hb | replace hb := of_decide_eq_false hb | replace hb := bne_t hb | replace hb := bne_f hb | replace hb := eq_of_beq hb | replace hb := ne_of_beq_false hb | skip); all_goals (try (exfalso; omega)))
        | (apply aw_cond; exact rfl; all_goals intro hb; all_goals (try dsimp only at hb); all_goals (try simp only [hb]); all_goals (first | replace hb := of_decide_eq_true hb | replace hb := of_decide_eq_false hb | replace hb := bne_t hb | replace hb := bne_f hb | replace hb := eq_of_beq hb | replace hb := ne_of_beq_false hb | skip); all_goals (try (exfalso; omega))))
      all_goals first
        | (exfalso; omega)
        | (apply ret1; exact rfl; exact ⟨rfl, by (repeat (first | exact dt_end | (apply dt_cons; · (repeat (first | exact sel0 | apply selS))) | apply dt_skip))⟩)
        | skip
    have hHas := fun h m1 m2 => (hHas h m1 m2).cast (u := .bool false) (by rw [hcs, decide_eq_false (Int.not_le.2 hcl)])
    have hnb : newB how o l = true := by rw [hnw, hok, decide_eq_true hcl]; rfl
    have e0 : ¬ newB how o l = false := by rw [hnb]; decide
    have hsd := newB_side hnb
    have hWd := fun h m1 m2 => (ref15_Would W p A c l o how hB hsd).mono (h' := h) (memPairB m1 m2)
    have hsb : staysB how = true ↔ how = 0 ∨ how = 3 := by simp [staysB]
    by_cases h3 : (how = 0 ∨ how = 3) ∧ l.length ≥ 64
    · have hv : wrongV how o l = 3 := by unfold wrongV; rw [if_neg e0, if_pos ⟨hsb.2 h3.1, h3.2⟩]
      rw [hv]
      repeat' (first
        | apply aw_seq | apply aw_region | apply aw_ret | apply aw_skip | apply aw_exit | apply aw_block | apply es_nil
        | (apply es_pure hT; (iterate 4 exact rfl)) | (apply es_skip; (iterate 3 exact rfl)) | (apply es_skip0; (iterate 2 exact rfl))
        | (apply es_i64 hT; (iterate 4 exact rfl); (iterate 2 (first | omega | (dsimp only; omega))))
        | (apply es_box; (iterate 5 exact rfl); intro g4)
        | (apply es_alloc hT; (iterate 5 exact rfl); first | ((fail_if_success (have q := g7)); intro g7) | ((fail_if_success (have q := g8)); intro g8) | intro _)
        | (apply es_callQ (hs := (hMay.mono (by simp))); (iterate 7 exact rfl))
        | (apply es_callQ (hs := (hHas _ (.tail _ (.tail _ m1)) (.tail _ (.tail _ m2)))); (iterate 7 exact rfl))
        | (apply es_callQ (hs := (hF _ (.tail _ (.tail _ m1)) (.tail _ (.tail _ m2)))); (iterate 7 exact rfl))
        | (apply aw_draw [65] [] hmix; decide +kernel)
        | (apply es_store hT; (iterate 6 exact rfl); (repeat (first | exact sel0 | apply selS)); (iterate 3 exact rfl); exact Nat.le_of_ble_eq_true rfl)
        | (apply es_load; (iterate 5 exact rfl); first | (apply ld_blk hT; exact rfl; exact rfl; (repeat (first | exact List.mem_cons_self | exact m1 | apply List.mem_cons_of_mem)); exact rfl; exact rfl) | (apply ld_all hT; exact rfl; exact rfl; (repeat (first | exact List.mem_cons_self | exact m1 | apply List.mem_cons_of_mem)); exact rfl))
        | (apply es_box; (iterate 5 exact rfl); intro _) | (apply es_alloc hT; (iterate 5 exact rfl); intro _)
        | (apply aw_condT; (iterate 2 exact rfl)) | (apply aw_condF; (iterate 2 exact rfl))
        | (apply es_case; exact rfl; all_goals intro hb; all_goals (fail_if_success (change true = true at hb)); all_goals (fail_if_success (change false = false at hb)); all_goals (try dsimp only at hb); all_goals (try simp only [hb]); all_goals (first | replace hb := of_decide_eq_true hb | replace hb := of_decide_eq_false hb | replace hb := bne_t hb | replace hb := bne_f hb | replace hb := eq_of_beq hb | replace hb := ne_of_beq_false hb | skip); all_goals (try (exfalso; omega)))
        | (apply aw_cond; exact rfl; all_goals intro hb; all_goals (try dsimp only at hb); all_goals (try simp only [hb]); all_goals (first | replace hb := of_decide_eq_true hb | replace hb := of_decide_eq_false hb | replace hb := bne_t hb | replace hb := bne_f hb | replace hb := eq_of_beq hb | replace hb := ne_of_beq_false hb | skip); all_goals (try (exfalso; omega))))
      all_goals first
        | (exfalso; omega)
        | (apply ret1; exact rfl; exact ⟨rfl, by (repeat (first | exact dt_end | (apply dt_cons; · (repeat (first | exact sel0 | apply selS))) | apply dt_skip))⟩)
        | skip
    have hv3 : ¬ (staysB how = true ∧ l.length ≥ 64) := fun h => h3 ⟨hsb.1 h.1, h.2⟩
    by_cases h16 : how = 3 ∧ (meetsO how o l).length > 0
    · have hv : wrongV how o l = 16 := by unfold wrongV; rw [if_neg e0, if_neg hv3, if_pos h16]
      rw [hv]
      have hb : b = true := by
        obtain ⟨_, hm0⟩ := h16
        cases hms : meetsO how o l with
        | nil => rw [hms] at hm0; simp at hm0
        | cons x r => rw [hms] at hyb; simp [gotO] at hyb; exact hyb.2
      rw [hb] at hF
      have hh3 := h16.1
      repeat' (first
        | apply aw_seq | apply aw_region | apply aw_ret | apply aw_skip | apply aw_exit | apply aw_block | apply es_nil
        | (apply es_pure hT; (iterate 4 exact rfl)) | (apply es_skip; (iterate 3 exact rfl)) | (apply es_skip0; (iterate 2 exact rfl))
        | (apply es_i64 hT; (iterate 4 exact rfl); (iterate 2 (first | omega | (dsimp only; omega))))
        | (apply es_box; (iterate 5 exact rfl); intro g4)
        | (apply es_alloc hT; (iterate 5 exact rfl); first | ((fail_if_success (have q := g7)); intro g7) | ((fail_if_success (have q := g8)); intro g8) | intro _)
        | (apply es_callQ (hs := (hMay.mono (by simp))); (iterate 7 exact rfl))
        | (apply es_callQ (hs := (hHas _ (.tail _ (.tail _ m1)) (.tail _ (.tail _ m2)))); (iterate 7 exact rfl))
        | (apply es_callQ (hs := (hF _ (.tail _ (.tail _ m1)) (.tail _ (.tail _ m2)))); (iterate 7 exact rfl))
        | (apply aw_draw [65] [] hmix; decide +kernel)
        | (apply es_store hT; (iterate 6 exact rfl); (repeat (first | exact sel0 | apply selS)); (iterate 3 exact rfl); exact Nat.le_of_ble_eq_true rfl)
        | (apply es_load; (iterate 5 exact rfl); first | (apply ld_blk hT; exact rfl; exact rfl; (repeat (first | exact List.mem_cons_self | exact m1 | apply List.mem_cons_of_mem)); exact rfl; exact rfl) | (apply ld_all hT; exact rfl; exact rfl; (repeat (first | exact List.mem_cons_self | exact m1 | apply List.mem_cons_of_mem)); exact rfl))
        | (apply es_box; (iterate 5 exact rfl); intro _) | (apply es_alloc hT; (iterate 5 exact rfl); intro _)
        | (apply aw_condT; (iterate 2 exact rfl)) | (apply aw_condF; (iterate 2 exact rfl))
        | (apply es_case; exact rfl; all_goals intro hb; all_goals (fail_if_success (change true = true at hb)); all_goals (fail_if_success (change false = false at hb)); all_goals (try dsimp only at hb); all_goals (try simp only [hb]); all_goals (first | replace hb := of_decide_eq_true hb | replace hb := of_decide_eq_false hb | replace hb := bne_t hb | replace hb := bne_f hb | replace hb := eq_of_beq hb | replace hb := ne_of_beq_false hb | skip); all_goals (try (exfalso; omega)))
        | (apply aw_cond; exact rfl; all_goals intro hb; all_goals (try dsimp only at hb); all_goals (try simp only [hb]); all_goals (first | replace hb := of_decide_eq_true hb | replace hb := of_decide_eq_false hb | replace hb := bne_t hb | replace hb := bne_f hb | replace hb := eq_of_beq hb | replace hb := ne_of_beq_false hb | skip); all_goals (try (exfalso; omega))))
      all_goals first
        | (exfalso; omega)
        | (apply ret1; exact rfl; exact ⟨rfl, by (repeat (first | exact dt_end | (apply dt_cons; · (repeat (first | exact sel0 | apply selS))) | apply dt_skip))⟩)
        | skip
    have hbf : how = 3 → b = false := fun h => by
      cases hms : meetsO how o l with
      | nil => rw [hms] at hyb; simp [gotO] at hyb; exact hyb.2
      | cons x r => exact absurd ⟨h, by rw [hms]; simp⟩ h16
    by_cases h17 : how = 2 ∧ wouldV how o l < o.left
    · have hv : wrongV how o l = 17 := by unfold wrongV; rw [if_neg e0, if_neg hv3, if_neg h16, if_pos h17]
      rw [hv]
      generalize wouldV how o l = wv at hWd h17
      have hh2 := h17.1
      have hh3 := h17.2
      repeat' (first
        | apply aw_seq | apply aw_region | apply aw_ret | apply aw_skip | apply aw_exit | apply aw_block | apply es_nil
        | (apply es_pure hT; (iterate 4 exact rfl)) | (apply es_skip; (iterate 3 exact rfl)) | (apply es_skip0; (iterate 2 exact rfl))
        | (apply es_i64 hT; (iterate 4 exact rfl); (iterate 2 (first | omega | (dsimp only; omega))))
        | (apply es_box; (iterate 5 exact rfl); intro g4)
        | (apply es_alloc hT; (iterate 5 exact rfl); first | ((fail_if_success (have q := g7)); intro g7) | ((fail_if_success (have q := g8)); intro g8) | intro _)
        | (apply es_callQ (hs := (hMay.mono (by simp))); (iterate 7 exact rfl))
        | (apply es_callQ (hs := (hHas _ (.tail _ (.tail _ m1)) (.tail _ (.tail _ m2)))); (iterate 7 exact rfl))
        | (apply es_callQ (hs := (hF _ (.tail _ (.tail _ m1)) (.tail _ (.tail _ m2)))); (iterate 7 exact rfl))
        | (apply aw_draw [65] [] hmix; decide +kernel)
        | (apply es_callQ (hs := (hWd _ (.tail _ (.tail _ (.tail _ m1))) (.tail _ (.tail _ (.tail _ m2))))); (iterate 7 exact rfl))
        | (apply es_store hT; (iterate 6 exact rfl); (repeat (first | exact sel0 | apply selS)); (iterate 3 exact rfl); exact Nat.le_of_ble_eq_true rfl)
        | (apply es_load; (iterate 5 exact rfl); first | (apply ld_blk hT; exact rfl; exact rfl; (repeat (first | exact List.mem_cons_self | exact m1 | apply List.mem_cons_of_mem)); exact rfl; exact rfl) | (apply ld_all hT; exact rfl; exact rfl; (repeat (first | exact List.mem_cons_self | exact m1 | apply List.mem_cons_of_mem)); exact rfl))
        | (apply es_box; (iterate 5 exact rfl); intro _) | (apply es_alloc hT; (iterate 5 exact rfl); intro _)
        | (apply aw_condT; (iterate 2 exact rfl)) | (apply aw_condF; (iterate 2 exact rfl))
        | (apply es_case; exact rfl; all_goals intro hb; all_goals (fail_if_success (change true = true at hb)); all_goals (fail_if_success (change false = false at hb)); all_goals (try dsimp only at hb); all_goals (try simp only [hb]); all_goals (first | replace hb := of_decide_eq_true hb | replace hb := of_decide_eq_false hb | replace hb := bne_t hb | replace hb := bne_f hb | replace hb := eq_of_beq hb | replace hb := ne_of_beq_false hb | skip); all_goals (try (exfalso; omega)))
        | (apply aw_cond; exact rfl; all_goals intro hb; all_goals (try dsimp only at hb); all_goals (try simp only [hb]); all_goals (first | replace hb := of_decide_eq_true hb | replace hb := of_decide_eq_false hb | replace hb := bne_t hb | replace hb := bne_f hb | replace hb := eq_of_beq hb | replace hb := ne_of_beq_false hb | skip); all_goals (try (exfalso; omega))))
      all_goals first
        | (exfalso; omega)
        | (apply ret1; exact rfl; exact ⟨rfl, by (repeat (first | exact dt_end | (apply dt_cons; · (repeat (first | exact sel0 | apply selS))) | apply dt_skip))⟩)
        | skip
    have hv : wrongV how o l = 0 := by unfold wrongV; rw [if_neg e0, if_neg hv3, if_neg h16, if_neg h17]
    rw [hv]
    generalize wouldV how o l = wv at hWd h17
    by_cases h33 : how = 3
    · have hb := hbf h33
      rw [hb] at hF
      repeat' (first
        | apply aw_seq | apply aw_region | apply aw_ret | apply aw_skip | apply aw_exit | apply aw_block | apply es_nil
        | (apply es_pure hT; (iterate 4 exact rfl)) | (apply es_skip; (iterate 3 exact rfl)) | (apply es_skip0; (iterate 2 exact rfl))
        | (apply es_i64 hT; (iterate 4 exact rfl); (iterate 2 (first | omega | (dsimp only; omega))))
        | (apply es_box; (iterate 5 exact rfl); intro g4)
        | (apply es_alloc hT; (iterate 5 exact rfl); first | ((fail_if_success (have q := g7)); intro g7) | ((fail_if_success (have q := g8)); intro g8) | intro _)
        | (apply es_callQ (hs := (hMay.mono (by simp))); (iterate 7 exact rfl))
        | (apply es_callQ (hs := (hHas _ (.tail _ (.tail _ m1)) (.tail _ (.tail _ m2)))); (iterate 7 exact rfl))
        | (apply es_callQ (hs := (hF _ (.tail _ (.tail _ m1)) (.tail _ (.tail _ m2)))); (iterate 7 exact rfl))
        | (apply aw_draw [65] [] hmix; decide +kernel)
        | (apply es_store hT; (iterate 6 exact rfl); (repeat (first | exact sel0 | apply selS)); (iterate 3 exact rfl); exact Nat.le_of_ble_eq_true rfl)
        | (apply es_load; (iterate 5 exact rfl); first | (apply ld_blk hT; exact rfl; exact rfl; (repeat (first | exact List.mem_cons_self | exact m1 | apply List.mem_cons_of_mem)); exact rfl; exact rfl) | (apply ld_all hT; exact rfl; exact rfl; (repeat (first | exact List.mem_cons_self | exact m1 | apply List.mem_cons_of_mem)); exact rfl))
        | (apply es_box; (iterate 5 exact rfl); intro _) | (apply es_alloc hT; (iterate 5 exact rfl); intro _)
        | (apply aw_condT; (iterate 2 exact rfl)) | (apply aw_condF; (iterate 2 exact rfl))
        | (apply es_case; exact rfl; all_goals intro hb; all_goals (fail_if_success (change true = true at hb)); all_goals (fail_if_success (change false = false at hb)); all_goals (try dsimp only at hb); all_goals (try simp only [hb]); all_goals (first | replace hb := of_decide_eq_true hb | replace hb := of_decide_eq_false hb | replace hb := bne_t hb | replace hb := bne_f hb | replace hb := eq_of_beq hb | replace hb := ne_of_beq_false hb | skip); all_goals (try (exfalso; omega)))
        | (apply aw_cond; exact rfl; all_goals intro hb; all_goals (try dsimp only at hb); all_goals (try simp only [hb]); all_goals (first | replace hb := of_decide_eq_true hb | replace hb := of_decide_eq_false hb | replace hb := bne_t hb | replace hb := bne_f hb | replace hb := eq_of_beq hb | replace hb := ne_of_beq_false hb | skip); all_goals (try (exfalso; omega))))
      all_goals first
        | (exfalso; omega)
        | (apply ret1; exact rfl; exact ⟨rfl, by (repeat (first | exact dt_end | (apply dt_cons; · (repeat (first | exact sel0 | apply selS))) | apply dt_skip))⟩)
        | skip
    · skip
      repeat' (first
        | apply aw_seq | apply aw_region | apply aw_ret | apply aw_skip | apply aw_exit | apply aw_block | apply es_nil
        | (apply es_pure hT; (iterate 4 exact rfl)) | (apply es_skip; (iterate 3 exact rfl)) | (apply es_skip0; (iterate 2 exact rfl))
        | (apply es_i64 hT; (iterate 4 exact rfl); (iterate 2 (first | omega | (dsimp only; omega))))
        | (apply es_box; (iterate 5 exact rfl); intro g4)
        | (apply es_alloc hT; (iterate 5 exact rfl); first | ((fail_if_success (have q := g7)); intro g7) | ((fail_if_success (have q := g8)); intro g8) | intro _)
        | (apply es_callQ (hs := (hMay.mono (by simp))); (iterate 7 exact rfl))
        | (apply es_callQ (hs := (hHas _ (.tail _ (.tail _ m1)) (.tail _ (.tail _ m2)))); (iterate 7 exact rfl))
        | (apply es_callQ (hs := (hF _ (.tail _ (.tail _ m1)) (.tail _ (.tail _ m2)))); (iterate 7 exact rfl))
        | (apply aw_draw [65] [] hmix; decide +kernel)
        | (apply es_callQ (hs := (hWd _ (.tail _ (.tail _ (.tail _ m1))) (.tail _ (.tail _ (.tail _ m2))))); (iterate 7 exact rfl))
        | (apply es_store hT; (iterate 6 exact rfl); (repeat (first | exact sel0 | apply selS)); (iterate 3 exact rfl); exact Nat.le_of_ble_eq_true rfl)
        | (apply es_load; (iterate 5 exact rfl); first | (apply ld_blk hT; exact rfl; exact rfl; (repeat (first | exact List.mem_cons_self | exact m1 | apply List.mem_cons_of_mem)); exact rfl; exact rfl) | (apply ld_all hT; exact rfl; exact rfl; (repeat (first | exact List.mem_cons_self | exact m1 | apply List.mem_cons_of_mem)); exact rfl))
        | (apply es_box; (iterate 5 exact rfl); intro _) | (apply es_alloc hT; (iterate 5 exact rfl); intro _)
        | (apply aw_condT; (iterate 2 exact rfl)) | (apply aw_condF; (iterate 2 exact rfl))
        | (apply es_case; exact rfl; all_goals intro hb; all_goals (fail_if_success (change true = true at hb)); all_goals (fail_if_success (change false = false at hb)); all_goals (try dsimp only at hb); all_goals (try simp only [hb]); all_goals (first | replace hb := of_decide_eq_true hb | replace hb := of_decide_eq_false hb | replace hb := bne_t hb | replace hb := bne_f hb | replace hb := eq_of_beq hb | replace hb := ne_of_beq_false hb | skip); all_goals (try (exfalso; omega)))
        | (apply aw_cond; exact rfl; all_goals intro hb; all_goals (try dsimp only at hb); all_goals (try simp only [hb]); all_goals (first | replace hb := of_decide_eq_true hb | replace hb := of_decide_eq_false hb | replace hb := bne_t hb | replace hb := bne_f hb | replace hb := eq_of_beq hb | replace hb := ne_of_beq_false hb | skip); all_goals (try (exfalso; omega))))
      all_goals first
        | (exfalso; omega)
        | (apply ret1; exact rfl; exact ⟨rfl, by (repeat (first | exact dt_end | (apply dt_cons; · (repeat (first | exact sel0 | apply selS))) | apply dt_skip))⟩)
        | skip
  · have has : asX how o = o := by unfold asX; rw [if_neg h4]
    by_cases h1 : how < 0 ∨ how > 4
    · have hv : wrongV how o l = 1 := by
        unfold wrongV newB
        rcases h1 with h | h
        · rw [show decide (0 ≤ how) = false by simp; omega]; rfl
        · rw [show decide (how ≤ 4) = false by simp; omega]; simp
      rw [hv]
      repeat' (first
        | apply aw_seq | apply aw_region | apply aw_ret | apply aw_skip | apply aw_exit | apply aw_block | apply es_nil
        | (apply es_pure hT; (iterate 4 exact rfl)) | (apply es_skip; (iterate 3 exact rfl)) | (apply es_skip0; (iterate 2 exact rfl))
        | (apply es_i64 hT; (iterate 4 exact rfl); (iterate 2 (first | omega | (dsimp only; omega))))
        | (apply es_box; (iterate 5 exact rfl); intro g4)
        | (apply es_alloc hT; (iterate 5 exact rfl); first | ((fail_if_success (have q := g7)); intro g7) | ((fail_if_success (have q := g8)); intro g8) | intro _)
        | (apply es_callQ (hs := (hMay.mono (by simp))); (iterate 7 exact rfl))
        | (apply es_callQ (hs := (hHas _ (.tail _ (.tail _ m1)) (.tail _ (.tail _ m2)))); (iterate 7 exact rfl))
        | (apply es_callQ (hs := (hF _ (.tail _ (.tail _ m1)) (.tail _ (.tail _ m2)))); (iterate 7 exact rfl))
        | (apply aw_draw [65] [] hmix; decide +kernel)
        | (apply es_store hT; (iterate 6 exact rfl); (repeat (first | exact sel0 | apply selS)); (iterate 3 exact rfl); exact Nat.le_of_ble_eq_true rfl)
        | (apply es_load; (iterate 5 exact rfl); first | (apply ld_blk hT; exact rfl; exact rfl; (repeat (first | exact List.mem_cons_self | exact m1 | apply List.mem_cons_of_mem)); exact rfl; exact rfl) | (apply ld_all hT; exact rfl; exact rfl; (repeat (first | exact List.mem_cons_self | exact m1 | apply List.mem_cons_of_mem)); exact rfl))
        | (apply es_box; (iterate 5 exact rfl); intro _) | (apply es_alloc hT; (iterate 5 exact rfl); intro _)
        | (apply aw_condT; (iterate 2 exact rfl)) | (apply aw_condF; (iterate 2 exact rfl))
        | (apply es_case; exact rfl; all_goals intro hb; all_goals (fail_if_success (change true = true at hb)); all_goals (fail_if_success (change false = false at hb)); all_goals (try dsimp only at hb); all_goals (try simp only [hb]); all_goals (first | replace hb := of_decide_eq_true hb | replace hb := of_decide_eq_false hb | replace hb := bne_t hb | replace hb := bne_f hb | replace hb := eq_of_beq hb | replace hb := ne_of_beq_false hb | skip); all_goals (try (exfalso; omega)))
        | (apply aw_cond; exact rfl; all_goals intro hb; all_goals (try dsimp only at hb); all_goals (try simp only [hb]); all_goals (first | replace hb := of_decide_eq_true hb | replace hb := of_decide_eq_false hb | replace hb := bne_t hb | replace hb := bne_f hb | replace hb := eq_of_beq hb | replace hb := ne_of_beq_false hb | skip); all_goals (try (exfalso; omega))))
      all_goals first
        | (exfalso; omega)
        | (apply ret1; exact rfl; exact ⟨rfl, by (repeat (first | exact dt_end | (apply dt_cons; · (repeat (first | exact sel0 | apply selS))) | apply dt_skip))⟩)
        | skip
    by_cases h2 : how = 4 ∧ o.price ≠ 0
    · have hv : wrongV how o l = 1 := by
        unfold wrongV newB
        have e : (!(how == 4 && !(o.price == 0))) = false := by simp [h2.1, h2.2]
        rw [e]; simp
      rw [hv]
      have hp1 := h2.1
      have hp2 := h2.2
      repeat' (first
        | apply aw_seq | apply aw_region | apply aw_ret | apply aw_skip | apply aw_exit | apply aw_block | apply es_nil
        | (apply es_pure hT; (iterate 4 exact rfl)) | (apply es_skip; (iterate 3 exact rfl)) | (apply es_skip0; (iterate 2 exact rfl))
        | (apply es_i64 hT; (iterate 4 exact rfl); (iterate 2 (first | omega | (dsimp only; omega))))
        | (apply es_box; (iterate 5 exact rfl); intro g4)
        | (apply es_alloc hT; (iterate 5 exact rfl); first | ((fail_if_success (have q := g7)); intro g7) | ((fail_if_success (have q := g8)); intro g8) | intro _)
        | (apply es_callQ (hs := (hMay.mono (by simp))); (iterate 7 exact rfl))
        | (apply es_callQ (hs := (hHas _ (.tail _ (.tail _ m1)) (.tail _ (.tail _ m2)))); (iterate 7 exact rfl))
        | (apply es_callQ (hs := (hF _ (.tail _ (.tail _ m1)) (.tail _ (.tail _ m2)))); (iterate 7 exact rfl))
        | (apply aw_draw [65] [] hmix; decide +kernel)
        | (apply es_store hT; (iterate 6 exact rfl); (repeat (first | exact sel0 | apply selS)); (iterate 3 exact rfl); exact Nat.le_of_ble_eq_true rfl)
        | (apply es_load; (iterate 5 exact rfl); first | (apply ld_blk hT; exact rfl; exact rfl; (repeat (first | exact List.mem_cons_self | exact m1 | apply List.mem_cons_of_mem)); exact rfl; exact rfl) | (apply ld_all hT; exact rfl; exact rfl; (repeat (first | exact List.mem_cons_self | exact m1 | apply List.mem_cons_of_mem)); exact rfl))
        | (apply es_box; (iterate 5 exact rfl); intro _) | (apply es_alloc hT; (iterate 5 exact rfl); intro _)
        | (apply aw_condT; (iterate 2 exact rfl)) | (apply aw_condF; (iterate 2 exact rfl))
        | (apply es_case; exact rfl; all_goals intro hb; all_goals (fail_if_success (change true = true at hb)); all_goals (fail_if_success (change false = false at hb)); all_goals (try dsimp only at hb); all_goals (try simp only [hb]); all_goals (first | replace hb := of_decide_eq_true hb | replace hb := of_decide_eq_false hb | replace hb := bne_t hb | replace hb := bne_f hb | replace hb := eq_of_beq hb | replace hb := ne_of_beq_false hb | skip); all_goals (try (exfalso; omega)))
        | (apply aw_cond; exact rfl; all_goals intro hb; all_goals (try dsimp only at hb); all_goals (try simp only [hb]); all_goals (first | replace hb := of_decide_eq_true hb | replace hb := of_decide_eq_false hb | replace hb := bne_t hb | replace hb := bne_f hb | replace hb := eq_of_beq hb | replace hb := ne_of_beq_false hb | skip); all_goals (try (exfalso; omega))))
      all_goals first
        | (exfalso; omega)
        | (apply ret1; exact rfl; exact ⟨rfl, by (repeat (first | exact dt_end | (apply dt_cons; · (repeat (first | exact sel0 | apply selS))) | apply dt_skip))⟩)
        | skip
    have hnw : newB how o l = (okO (asX how o) && decide (idxOf (clashO o) l < 0)) := by
      unfold newB
      rw [show decide (0 ≤ how) = true by simp; omega, show decide (how ≤ 4) = true by simp; omega, show (!(how == 4 && !(o.price == 0))) = true by simp; omega]
      simp
    cases hok : okO (asX how o)
    · have hv : wrongV how o l = 1 := by unfold wrongV; rw [if_pos (by rw [hnw, hok]; rfl)]
      rw [hv]
      rw [hok] at hMay
      rw [has] at hMay
      repeat' (first
        | apply aw_seq | apply aw_region | apply aw_ret | apply aw_skip | apply aw_exit | apply aw_block | apply es_nil
        | (apply es_pure hT; (iterate 4 exact rfl)) | (apply es_skip; (iterate 3 exact rfl)) | (apply es_skip0; (iterate 2 exact rfl))
        | (apply es_i64 hT; (iterate 4 exact rfl); (iterate 2 (first | omega | (dsimp only; omega))))
        | (apply es_box; (iterate 5 exact rfl); intro g4)
        | (apply es_alloc hT; (iterate 5 exact rfl); first | ((fail_if_success (have q := g7)); intro g7) | ((fail_if_success (have q := g8)); intro g8) | intro _)
        | (apply es_callQ (hs := (hMay.mono (by simp))); (iterate 7 exact rfl))
        | (apply es_callQ (hs := (hHas _ (.tail _ (.tail _ m1)) (.tail _ (.tail _ m2)))); (iterate 7 exact rfl))
        | (apply es_callQ (hs := (hF _ (.tail _ (.tail _ m1)) (.tail _ (.tail _ m2)))); (iterate 7 exact rfl))
        | (apply aw_draw [65] [] hmix; decide +kernel)
        | (apply es_store hT; (iterate 6 exact rfl); (repeat (first | exact sel0 | apply selS)); (iterate 3 exact rfl); exact Nat.le_of_ble_eq_true rfl)
        | (apply es_load; (iterate 5 exact rfl); first | (apply ld_blk hT; exact rfl; exact rfl; (repeat (first | exact List.mem_cons_self | exact m1 | apply List.mem_cons_of_mem)); exact rfl; exact rfl) | (apply ld_all hT; exact rfl; exact rfl; (repeat (first | exact List.mem_cons_self | exact m1 | apply List.mem_cons_of_mem)); exact rfl))
        | (apply es_box; (iterate 5 exact rfl); intro _) | (apply es_alloc hT; (iterate 5 exact rfl); intro _)
        | (apply aw_condT; (iterate 2 exact rfl)) | (apply aw_condF; (iterate 2 exact rfl))
        | (apply es_case; exact rfl; all_goals intro hb; all_goals (fail_if_success (change true = true at hb)); all_goals (fail_if_success (change false = false at hb)); all_goals (try dsimp only at hb); all_goals (try simp only [hb]); all_goals (first | replace hb := of_decide_eq_true hb | replace hb := of_decide_eq_false hb | replace hb := bne_t hb | replace hb := bne_f hb | replace hb := eq_of_beq hb | replace hb := ne_of_beq_false hb | skip); all_goals (try (exfalso; omega)))
        | (apply aw_cond; exact rfl; all_goals intro hb; all_goals (try dsimp only at hb); all_goals (try simp only [hb]); all_goals (first | replace hb := of_decide_eq_true hb | replace hb := of_decide_eq_false hb | replace hb := bne_t hb | replace hb := bne_f hb | replace hb := eq_of_beq hb | replace hb := ne_of_beq_false hb | skip); all_goals (try (exfalso; omega))))
      all_goals first
        | (exfalso; omega)
        | (apply ret1; exact rfl; exact ⟨rfl, by (repeat (first | exact dt_end | (apply dt_cons; · (repeat (first | exact sel0 | apply selS))) | apply dt_skip))⟩)
        | skip
    rw [hok] at hMay
    rw [has] at hMay
    have hcs : hasIS o.id o.seq = clashO o := by funext x; rfl
    rcases Int.lt_or_le (idxOf (clashO o) l) 0 with hcl | hcl
    rotate_left
    · have hv : wrongV how o l = 1 := by
        unfold wrongV
        rw [if_pos (by rw [hnw, show decide (idxOf (clashO o) l < 0) = false by simp; omega, Bool.and_false])]
      rw [hv]
      have hHas := fun h m1 m2 => (hHas h m1 m2).cast (u := .bool true) (by rw [hcs, decide_eq_true hcl])
      repeat' (first
        | apply aw_seq | apply aw_region | apply aw_ret | apply aw_skip | apply aw_exit | apply aw_block | apply es_nil
        | (apply es_pure hT; (iterate 4 exact rfl)) | (apply es_skip; (iterate 3 exact rfl)) | (apply es_skip0; (iterate 2 exact rfl))
        | (apply es_i64 hT; (iterate 4 exact rfl); (iterate 2 (first | omega | (dsimp only; omega))))
        | (apply es_box; (iterate 5 exact rfl); intro g4)
        | (apply es_alloc hT; (iterate 5 exact rfl); first | ((fail_if_success (have q := g7)); intro g7) | ((fail_if_success (have q := g8)); intro g8) | intro _)
        | (apply es_callQ (hs := (hMay.mono (by simp))); (iterate 7 exact rfl))
        | (apply es_callQ (hs := (hHas _ (.tail _ (.tail _ m1)) (.tail _ (.tail _ m2)))); (iterate 7 exact rfl))
        | (apply es_callQ (hs := (hF _ (.tail _ (.tail _ m1)) (.tail _ (.tail _ m2)))); (iterate 7 exact rfl))
        | (apply aw_draw [65] [] hmix; decide +kernel)
        | (apply es_store hT; (iterate 6 exact rfl); (repeat (first | exact sel0 | apply selS)); (iterate 3 exact rfl); exact Nat.le_of_ble_eq_true rfl)
        | (apply es_load; (iterate 5 exact rfl); first | (apply ld_blk hT; exact rfl; exact rfl; (repeat (first | exact List.mem_cons_self | exact m1 | apply List.mem_cons_of_mem)); exact rfl; exact rfl) | (apply ld_all hT; exact rfl; exact rfl; (repeat (first | exact List.mem_cons_self | exact m1 | apply List.mem_cons_of_mem)); exact rfl))
        | (apply es_box; (iterate 5 exact rfl); intro _) | (apply es_alloc hT; (iterate 5 exact rfl); intro _)
        | (apply aw_condT; (iterate 2 exact rfl)) | (apply aw_condF; (iterate 2 exact rfl))
        | (apply es_case; exact rfl; all_goals intro hb; all_goals (fail_if_success (change true = true at hb)); all_goals (fail_if_success (change false = false at hb)); all_goals (try dsimp only at hb); all_goals (try simp only [hb]); all_goals (first | replace hb := of_decide_eq_true hb | replace hb := of_decide_eq_false hb | replace hb := bne_t hb | replace hb := bne_f hb | replace hb := eq_of_beq hb | replace hb := ne_of_beq_false hb | skip); all_goals (try (exfalso; omega)))
        | (apply aw_cond; exact rfl; all_goals intro hb; all_goals (try dsimp only at hb); all_goals (try simp only [hb]); all_goals (first | replace hb := of_decide_eq_true hb | replace hb := of_decide_eq_false hb | replace hb := bne_t hb | replace hb := bne_f hb | replace hb := eq_of_beq hb | replace hb := ne_of_beq_false hb | skip); all_goals (try (exfalso; omega))))
      all_goals first
        | (exfalso; omega)
        | (apply ret1; exact rfl; exact ⟨rfl, by (repeat (first | exact dt_end | (apply dt_cons; · (repeat (first | exact sel0 | apply selS))) | apply dt_skip))⟩)
        | skip
    have hHas := fun h m1 m2 => (hHas h m1 m2).cast (u := .bool false) (by rw [hcs, decide_eq_false (Int.not_le.2 hcl)])
    have hnb : newB how o l = true := by rw [hnw, hok, decide_eq_true hcl]; rfl
    have e0 : ¬ newB how o l = false := by rw [hnb]; decide
    have hsd := newB_side hnb
    have hWd := fun h m1 m2 => (ref15_Would W p A c l o how hB hsd).mono (h' := h) (memPairB m1 m2)
    have hsb : staysB how = true ↔ how = 0 ∨ how = 3 := by simp [staysB]
    by_cases h3 : (how = 0 ∨ how = 3) ∧ l.length ≥ 64
    · have hv : wrongV how o l = 3 := by unfold wrongV; rw [if_neg e0, if_pos ⟨hsb.2 h3.1, h3.2⟩]
      rw [hv]
      repeat' (first
        | apply aw_seq | apply aw_region | apply aw_ret | apply aw_skip | apply aw_exit | apply aw_block | apply es_nil
        | (apply es_pure hT; (iterate 4 exact rfl)) | (apply es_skip; (iterate 3 exact rfl)) | (apply es_skip0; (iterate 2 exact rfl))
        | (apply es_i64 hT; (iterate 4 exact rfl); (iterate 2 (first | omega | (dsimp only; omega))))
        | (apply es_box; (iterate 5 exact rfl); intro g4)
        | (apply es_alloc hT; (iterate 5 exact rfl); first | ((fail_if_success (have q := g7)); intro g7) | ((fail_if_success (have q := g8)); intro g8) | intro _)
        | (apply es_callQ (hs := (hMay.mono (by simp))); (iterate 7 exact rfl))
        | (apply es_callQ (hs := (hHas _ (.tail _ (.tail _ m1)) (.tail _ (.tail _ m2)))); (iterate 7 exact rfl))
        | (apply es_callQ (hs := (hF _ (.tail _ (.tail _ m1)) (.tail _ (.tail _ m2)))); (iterate 7 exact rfl))
        | (apply aw_draw [65] [] hmix; decide +kernel)
        | (apply es_store hT; (iterate 6 exact rfl); (repeat (first | exact sel0 | apply selS)); (iterate 3 exact rfl); exact Nat.le_of_ble_eq_true rfl)
        | (apply es_load; (iterate 5 exact rfl); first | (apply ld_blk hT; exact rfl; exact rfl; (repeat (first | exact List.mem_cons_self | exact m1 | apply List.mem_cons_of_mem)); exact rfl; exact rfl) | (apply ld_all hT; exact rfl; exact rfl; (repeat (first | exact List.mem_cons_self | exact m1 | apply List.mem_cons_of_mem)); exact rfl))
        | (apply es_box; (iterate 5 exact rfl); intro _) | (apply es_alloc hT; (iterate 5 exact rfl); intro _)
        | (apply aw_condT; (iterate 2 exact rfl)) | (apply aw_condF; (iterate 2 exact rfl))
        | (apply es_case; exact rfl; all_goals intro hb; all_goals (fail_if_success (change true = true at hb)); all_goals (fail_if_success (change false = false at hb)); all_goals (try dsimp only at hb); all_goals (try simp only [hb]); all_goals (first | replace hb := of_decide_eq_true hb | replace hb := of_decide_eq_false hb | replace hb := bne_t hb | replace hb := bne_f hb | replace hb := eq_of_beq hb | replace hb := ne_of_beq_false hb | skip); all_goals (try (exfalso; omega)))
        | (apply aw_cond; exact rfl; all_goals intro hb; all_goals (try dsimp only at hb); all_goals (try simp only [hb]); all_goals (first | replace hb := of_decide_eq_true hb | replace hb := of_decide_eq_false hb | replace hb := bne_t hb | replace hb := bne_f hb | replace hb := eq_of_beq hb | replace hb := ne_of_beq_false hb | skip); all_goals (try (exfalso; omega))))
      all_goals first
        | (exfalso; omega)
        | (apply ret1; exact rfl; exact ⟨rfl, by (repeat (first | exact dt_end | (apply dt_cons; · (repeat (first | exact sel0 | apply selS))) | apply dt_skip))⟩)
        | skip
    have hv3 : ¬ (staysB how = true ∧ l.length ≥ 64) := fun h => h3 ⟨hsb.1 h.1, h.2⟩
    by_cases h16 : how = 3 ∧ (meetsO how o l).length > 0
    · have hv : wrongV how o l = 16 := by unfold wrongV; rw [if_neg e0, if_neg hv3, if_pos h16]
      rw [hv]
      have hb : b = true := by
        obtain ⟨_, hm0⟩ := h16
        cases hms : meetsO how o l with
        | nil => rw [hms] at hm0; simp at hm0
        | cons x r => rw [hms] at hyb; simp [gotO] at hyb; exact hyb.2
      rw [hb] at hF
      have hh3 := h16.1
      repeat' (first
        | apply aw_seq | apply aw_region | apply aw_ret | apply aw_skip | apply aw_exit | apply aw_block | apply es_nil
        | (apply es_pure hT; (iterate 4 exact rfl)) | (apply es_skip; (iterate 3 exact rfl)) | (apply es_skip0; (iterate 2 exact rfl))
        | (apply es_i64 hT; (iterate 4 exact rfl); (iterate 2 (first | omega | (dsimp only; omega))))
        | (apply es_box; (iterate 5 exact rfl); intro g4)
        | (apply es_alloc hT; (iterate 5 exact rfl); first | ((fail_if_success (have q := g7)); intro g7) | ((fail_if_success (have q := g8)); intro g8) | intro _)
        | (apply es_callQ (hs := (hMay.mono (by simp))); (iterate 7 exact rfl))
        | (apply es_callQ (hs := (hHas _ (.tail _ (.tail _ m1)) (.tail _ (.tail _ m2)))); (iterate 7 exact rfl))
        | (apply es_callQ (hs := (hF _ (.tail _ (.tail _ m1)) (.tail _ (.tail _ m2)))); (iterate 7 exact rfl))
        | (apply aw_draw [65] [] hmix; decide +kernel)
        | (apply es_store hT; (iterate 6 exact rfl); (repeat (first | exact sel0 | apply selS)); (iterate 3 exact rfl); exact Nat.le_of_ble_eq_true rfl)
        | (apply es_load; (iterate 5 exact rfl); first | (apply ld_blk hT; exact rfl; exact rfl; (repeat (first | exact List.mem_cons_self | exact m1 | apply List.mem_cons_of_mem)); exact rfl; exact rfl) | (apply ld_all hT; exact rfl; exact rfl; (repeat (first | exact List.mem_cons_self | exact m1 | apply List.mem_cons_of_mem)); exact rfl))
        | (apply es_box; (iterate 5 exact rfl); intro _) | (apply es_alloc hT; (iterate 5 exact rfl); intro _)
        | (apply aw_condT; (iterate 2 exact rfl)) | (apply aw_condF; (iterate 2 exact rfl))
        | (apply es_case; exact rfl; all_goals intro hb; all_goals (fail_if_success (change true = true at hb)); all_goals (fail_if_success (change false = false at hb)); all_goals (try dsimp only at hb); all_goals (try simp only [hb]); all_goals (first | replace hb := of_decide_eq_true hb | replace hb := of_decide_eq_false hb | replace hb := bne_t hb | replace hb := bne_f hb | replace hb := eq_of_beq hb | replace hb := ne_of_beq_false hb | skip); all_goals (try (exfalso; omega)))
        | (apply aw_cond; exact rfl; all_goals intro hb; all_goals (try dsimp only at hb); all_goals (try simp only [hb]); all_goals (first | replace hb := of_decide_eq_true hb | replace hb := of_decide_eq_false hb | replace hb := bne_t hb | replace hb := bne_f hb | replace hb := eq_of_beq hb | replace hb := ne_of_beq_false hb | skip); all_goals (try (exfalso; omega))))
      all_goals first
        | (exfalso; omega)
        | (apply ret1; exact rfl; exact ⟨rfl, by (repeat (first | exact dt_end | (apply dt_cons; · (repeat (first | exact sel0 | apply selS))) | apply dt_skip))⟩)
        | skip
    have hbf : how = 3 → b = false := fun h => by
      cases hms : meetsO how o l with
      | nil => rw [hms] at hyb; simp [gotO] at hyb; exact hyb.2
      | cons x r => exact absurd ⟨h, by rw [hms]; simp⟩ h16
    by_cases h17 : how = 2 ∧ wouldV how o l < o.left
    · have hv : wrongV how o l = 17 := by unfold wrongV; rw [if_neg e0, if_neg hv3, if_neg h16, if_pos h17]
      rw [hv]
      generalize wouldV how o l = wv at hWd h17
      have hh2 := h17.1
      have hh3 := h17.2
      repeat' (first
        | apply aw_seq | apply aw_region | apply aw_ret | apply aw_skip | apply aw_exit | apply aw_block | apply es_nil
        | (apply es_pure hT; (iterate 4 exact rfl)) | (apply es_skip; (iterate 3 exact rfl)) | (apply es_skip0; (iterate 2 exact rfl))
        | (apply es_i64 hT; (iterate 4 exact rfl); (iterate 2 (first | omega | (dsimp only; omega))))
        | (apply es_box; (iterate 5 exact rfl); intro g4)
        | (apply es_alloc hT; (iterate 5 exact rfl); first | ((fail_if_success (have q := g7)); intro g7) | ((fail_if_success (have q := g8)); intro g8) | intro _)
        | (apply es_callQ (hs := (hMay.mono (by simp))); (iterate 7 exact rfl))
        | (apply es_callQ (hs := (hHas _ (.tail _ (.tail _ m1)) (.tail _ (.tail _ m2)))); (iterate 7 exact rfl))
        | (apply es_callQ (hs := (hF _ (.tail _ (.tail _ m1)) (.tail _ (.tail _ m2)))); (iterate 7 exact rfl))
        | (apply aw_draw [65] [] hmix; decide +kernel)
        | (apply es_callQ (hs := (hWd _ (.tail _ (.tail _ (.tail _ m1))) (.tail _ (.tail _ (.tail _ m2))))); (iterate 7 exact rfl))
        | (apply es_store hT; (iterate 6 exact rfl); (repeat (first | exact sel0 | apply selS)); (iterate 3 exact rfl); exact Nat.le_of_ble_eq_true rfl)
        | (apply es_load; (iterate 5 exact rfl); first | (apply ld_blk hT; exact rfl; exact rfl; (repeat (first | exact List.mem_cons_self | exact m1 | apply List.mem_cons_of_mem)); exact rfl; exact rfl) | (apply ld_all hT; exact rfl; exact rfl; (repeat (first | exact List.mem_cons_self | exact m1 | apply List.mem_cons_of_mem)); exact rfl))
        | (apply es_box; (iterate 5 exact rfl); intro _) | (apply es_alloc hT; (iterate 5 exact rfl); intro _)
        | (apply aw_condT; (iterate 2 exact rfl)) | (apply aw_condF; (iterate 2 exact rfl))
        | (apply es_case; exact rfl; all_goals intro hb; all_goals (fail_if_success (change true = true at hb)); all_goals (fail_if_success (change false = false at hb)); all_goals (try dsimp only at hb); all_goals (try simp only [hb]); all_goals (first | replace hb := of_decide_eq_true hb | replace hb := of_decide_eq_false hb | replace hb := bne_t hb | replace hb := bne_f hb | replace hb := eq_of_beq hb | replace hb := ne_of_beq_false hb | skip); all_goals (try (exfalso; omega)))
        | (apply aw_cond; exact rfl; all_goals intro hb; all_goals (try dsimp only at hb); all_goals (try simp only [hb]); all_goals (first | replace hb := of_decide_eq_true hb | replace hb := of_decide_eq_false hb | replace hb := bne_t hb | replace hb := bne_f hb | replace hb := eq_of_beq hb | replace hb := ne_of_beq_false hb | skip); all_goals (try (exfalso; omega))))
      all_goals first
        | (exfalso; omega)
        | (apply ret1; exact rfl; exact ⟨rfl, by (repeat (first | exact dt_end | (apply dt_cons; · (repeat (first | exact sel0 | apply selS))) | apply dt_skip))⟩)
        | skip
    have hv : wrongV how o l = 0 := by unfold wrongV; rw [if_neg e0, if_neg hv3, if_neg h16, if_neg h17]
    rw [hv]
    generalize wouldV how o l = wv at hWd h17
    by_cases h33 : how = 3
    · have hb := hbf h33
      rw [hb] at hF
      repeat' (first
        | apply aw_seq | apply aw_region | apply aw_ret | apply aw_skip | apply aw_exit | apply aw_block | apply es_nil
        | (apply es_pure hT; (iterate 4 exact rfl)) | (apply es_skip; (iterate 3 exact rfl)) | (apply es_skip0; (iterate 2 exact rfl))
        | (apply es_i64 hT; (iterate 4 exact rfl); (iterate 2 (first | omega | (dsimp only; omega))))
        | (apply es_box; (iterate 5 exact rfl); intro g4)
        | (apply es_alloc hT; (iterate 5 exact rfl); first | ((fail_if_success (have q := g7)); intro g7) | ((fail_if_success (have q := g8)); intro g8) | intro _)
        | (apply es_callQ (hs := (hMay.mono (by simp))); (iterate 7 exact rfl))
        | (apply es_callQ (hs := (hHas _ (.tail _ (.tail _ m1)) (.tail _ (.tail _ m2)))); (iterate 7 exact rfl))
        | (apply es_callQ (hs := (hF _ (.tail _ (.tail _ m1)) (.tail _ (.tail _ m2)))); (iterate 7 exact rfl))
        | (apply aw_draw [65] [] hmix; decide +kernel)
        | (apply es_store hT; (iterate 6 exact rfl); (repeat (first | exact sel0 | apply selS)); (iterate 3 exact rfl); exact Nat.le_of_ble_eq_true rfl)
        | (apply es_load; (iterate 5 exact rfl); first | (apply ld_blk hT; exact rfl; exact rfl; (repeat (first | exact List.mem_cons_self | exact m1 | apply List.mem_cons_of_mem)); exact rfl; exact rfl) | (apply ld_all hT; exact rfl; exact rfl; (repeat (first | exact List.mem_cons_self | exact m1 | apply List.mem_cons_of_mem)); exact rfl))
        | (apply es_box; (iterate 5 exact rfl); intro _) | (apply es_alloc hT; (iterate 5 exact rfl); intro _)
        | (apply aw_condT; (iterate 2 exact rfl)) | (apply aw_condF; (iterate 2 exact rfl))
        | (apply es_case; exact rfl; all_goals intro hb; all_goals (fail_if_success (change true = true at hb)); all_goals (fail_if_success (change false = false at hb)); all_goals (try dsimp only at hb); all_goals (try simp only [hb]); all_goals (first | replace hb := of_decide_eq_true hb | replace hb := of_decide_eq_false hb | replace hb := bne_t hb | replace hb := bne_f hb | replace hb := eq_of_beq hb | replace hb := ne_of_beq_false hb | skip); all_goals (try (exfalso; omega)))
        | (apply aw_cond; exact rfl; all_goals intro hb; all_goals (try dsimp only at hb); all_goals (try simp only [hb]); all_goals (first | replace hb := of_decide_eq_true hb | replace hb := of_decide_eq_false hb | replace hb := bne_t hb | replace hb := bne_f hb | replace hb := eq_of_beq hb | replace hb := ne_of_beq_false hb | skip); all_goals (try (exfalso; omega))))
      all_goals first
        | (exfalso; omega)
        | (apply ret1; exact rfl; exact ⟨rfl, by (repeat (first | exact dt_end | (apply dt_cons; · (repeat (first | exact sel0 | apply selS))) | apply dt_skip))⟩)
        | skip
    · skip
      repeat' (first
        | apply aw_seq | apply aw_region | apply aw_ret | apply aw_skip | apply aw_exit | apply aw_block | apply es_nil
        | (apply es_pure hT; (iterate 4 exact rfl)) | (apply es_skip; (iterate 3 exact rfl)) | (apply es_skip0; (iterate 2 exact rfl))
        | (apply es_i64 hT; (iterate 4 exact rfl); (iterate 2 (first | omega | (dsimp only; omega))))
        | (apply es_box; (iterate 5 exact rfl); intro g4)
        | (apply es_alloc hT; (iterate 5 exact rfl); first | ((fail_if_success (have q := g7)); intro g7) | ((fail_if_success (have q := g8)); intro g8) | intro _)
        | (apply es_callQ (hs := (hMay.mono (by simp))); (iterate 7 exact rfl))
        | (apply es_callQ (hs := (hHas _ (.tail _ (.tail _ m1)) (.tail _ (.tail _ m2)))); (iterate 7 exact rfl))
        | (apply es_callQ (hs := (hF _ (.tail _ (.tail _ m1)) (.tail _ (.tail _ m2)))); (iterate 7 exact rfl))
        | (apply aw_draw [65] [] hmix; decide +kernel)
        | (apply es_callQ (hs := (hWd _ (.tail _ (.tail _ (.tail _ m1))) (.tail _ (.tail _ (.tail _ m2))))); (iterate 7 exact rfl))
        | (apply es_store hT; (iterate 6 exact rfl); (repeat (first | exact sel0 | apply selS)); (iterate 3 exact rfl); exact Nat.le_of_ble_eq_true rfl)
        | (apply es_load; (iterate 5 exact rfl); first | (apply ld_blk hT; exact rfl; exact rfl; (repeat (first | exact List.mem_cons_self | exact m1 | apply List.mem_cons_of_mem)); exact rfl; exact rfl) | (apply ld_all hT; exact rfl; exact rfl; (repeat (first | exact List.mem_cons_self | exact m1 | apply List.mem_cons_of_mem)); exact rfl))
        | (apply es_box; (iterate 5 exact rfl); intro _) | (apply es_alloc hT; (iterate 5 exact rfl); intro _)
        | (apply aw_condT; (iterate 2 exact rfl)) | (apply aw_condF; (iterate 2 exact rfl))
        | (apply es_case; exact rfl; all_goals intro hb; all_goals (fail_if_success (change true = true at hb)); all_goals (fail_if_success (change false = false at hb)); all_goals (try dsimp only at hb); all_goals (try simp only [hb]); all_goals (first | replace hb := of_decide_eq_true hb | replace hb := of_decide_eq_false hb | replace hb := bne_t hb | replace hb := bne_f hb | replace hb := eq_of_beq hb | replace hb := ne_of_beq_false hb | skip); all_goals (try (exfalso; omega)))
        | (apply aw_cond; exact rfl; all_goals intro hb; all_goals (try dsimp only at hb); all_goals (try simp only [hb]); all_goals (first | replace hb := of_decide_eq_true hb | replace hb := of_decide_eq_false hb | replace hb := bne_t hb | replace hb := bne_f hb | replace hb := eq_of_beq hb | replace hb := ne_of_beq_false hb | skip); all_goals (try (exfalso; omega))))
      all_goals first
        | (exfalso; omega)
        | (apply ret1; exact rfl; exact ⟨rfl, by (repeat (first | exact dt_end | (apply dt_cons; · (repeat (first | exact sel0 | apply selS))) | apply dt_skip))⟩)
        | skip

theorem seqblk {P : Program} {W : World} {N id : Nat} {y : Code} {Q : Exit → Env → List Chunk → Prop} {env : Env} {h : List Chunk} (hq : Q .normal env h) : SeqQ P W N y (BlockQ id Q) (.exit id) env h := by
  show (if id = id then Q .normal env h else Q (.exit id) env h)
  rw [if_pos rfl]; exact hq
set_option maxHeartbeats 4000000 in
theorem ref15_Do (W : World) (F : List Chunk) (p : Nat) (A : Option Addr) (c : Nat) (l : List Order) (o : Order) (how : Int) (hB : BookB l) :
    FSpec Try.prog W 67 [.pointer (some ⟨p, 0, none⟩), .agg o.enc.toArray, .int .i64 how] (refB p A c l F)
      (fun v h' => ∃ Af cf Ag cg A' c', v = .tuple #[.slice Af (doV how o l).fills.length cf, .slice Ag (doV how o l).gones.length cg, .int .i64 (doV how o l).left, .int .i64 (doV how o l).err] ∧
        h' = .own Af (doV how o l).fills.length cf 95 7 ((doV how o l).fills.flatMap FillR.enc) :: .own Ag (doV how o l).gones.length cg 103 3 ((doV how o l).gones.flatMap GoneR.enc) :: refB p A' c' (doV how o l).bk F ∧
        OwnF Af (doV how o l).fills.length cf 7 ((doV how o l).fills.flatMap FillR.enc) ∧ OwnF Ag (doV how o l).gones.length cg 3 ((doV how o l).gones.flatMap GoneR.enc)) := by
  refine FSpec.dropF ?_
  have hW' := fun h m1 m2 => (ref15_May W p A c l o how hB).mono (h' := h) (memPairB m1 m2)
  refine spec_body Try.func67 rfl rfl Try.results67 Try.ntmps67 rfl rfl ?_
  by_cases hw0 : wrongV how o l = 0
  · rw [hw0] at hW'
    have hnb : newB how o l = true := by
      cases h : newB how o l
      · unfold wrongV at hw0; rw [if_pos h] at hw0; omega
      · rfl
    have hol := newB_left hnb
    have hsd := newB_side hnb
    have hml := meets_len how o l
    have hbl := hB.len
    have hlf : ∀ x ∈ meetsO how o l, 1 ≤ x.left ∧ x.left ≤ 1000000 := fun x hx => hB.left x (meets_mem hx).1
    have hrun := run_meets (how := how) hsd hB
    generalize hms : meetsO how o l = ms at hml hlf hrun
    repeat' (first
      | apply aw_seq | apply aw_region | apply aw_ret | apply aw_skip | apply aw_exit | apply aw_block | apply es_nil
      | (apply es_pure hT; (iterate 4 exact rfl)) | (apply es_skip; (iterate 3 exact rfl)) | (apply es_skip0; (iterate 2 exact rfl))
      | (apply es_i64 hT; (iterate 4 exact rfl); (iterate 2 (first | omega | (dsimp only; omega))))
      | (apply aw_draw [] [] hmix; decide +kernel)
      | (apply es_box; (iterate 5 exact rfl); intro g4)
      | (apply es_callQ (hs := (hW' _ (by (repeat (first | exact List.mem_cons_self | apply List.mem_cons_of_mem))) (by (repeat (first | exact List.mem_cons_self | apply List.mem_cons_of_mem))))); (iterate 7 exact rfl))
      | (apply es_load; (iterate 5 exact rfl); first | (apply ld_blk hT; exact rfl; exact rfl; (repeat (first | exact List.mem_cons_self | apply List.mem_cons_of_mem)); exact rfl; exact rfl) | (apply ld_all hT; exact rfl; exact rfl; (repeat (first | exact List.mem_cons_self | apply List.mem_cons_of_mem)); exact rfl))
      | (apply es_box; (iterate 5 exact rfl); intro _) | (apply es_alloc hT; (iterate 5 exact rfl); intro _)
      | (apply aw_condT; (iterate 2 exact rfl)) | (apply aw_condF; (iterate 2 exact rfl))
      | (apply es_case; exact rfl; all_goals intro hb; all_goals (fail_if_success (change true = true at hb)); all_goals (fail_if_success (change false = false at hb)); all_goals (try dsimp only at hb); all_goals (try simp only [hb]); all_goals (first | replace hb := of_decide_eq_true hb | replace hb := of_decide_eq_false hb | replace hb := bne_t hb | replace hb := bne_f hb | replace hb := eq_of_beq hb | replace hb := ne_of_beq_false hb | skip); all_goals (try (exfalso; omega)))
      | (apply aw_cond; exact rfl; all_goals intro hb; all_goals (try dsimp only at hb); all_goals (try simp only [hb]); all_goals (first | replace hb := of_decide_eq_true hb | replace hb := of_decide_eq_false hb | replace hb := bne_t hb | replace hb := bne_f hb | replace hb := eq_of_beq hb | replace hb := ne_of_beq_false hb | skip); all_goals (try (exfalso; omega))))
    all_goals try (exfalso; omega)
    refine aw_conv (fun w hw => ⟨_, (hw.own_nil 103 3).own_nil 95 7, ?_⟩)
    refine aw_loopD (α := Nat × Option Addr × Nat × Option Addr × Nat × Option Addr × Nat) (E := fun x => [(0, .pointer (some ⟨p, 0, none⟩)), (2, .int .i64 how), (4, .pointer (some ⟨g4, 0, none⟩)), (11, .slice x.2.1 (runX o l (ms.take x.1)).fills.length x.2.2.1), (12, .slice x.2.2.2.1 (runX o l (ms.take x.1)).gones.length x.2.2.2.2.1)])
      (H := fun x => .own x.2.1 (runX o l (ms.take x.1)).fills.length x.2.2.1 95 7 ((runX o l (ms.take x.1)).fills.flatMap FillR.enc) :: .own x.2.2.2.1 (runX o l (ms.take x.1)).gones.length x.2.2.2.2.1 103 3 ((runX o l (ms.take x.1)).gones.flatMap GoneR.enc) :: refB p x.2.2.2.2.2.1 x.2.2.2.2.2.2 (runX o l (ms.take x.1)).bk (.blk g4 29 (Order.enc { o with left := (runX o l (ms.take x.1)).left }) :: F))
      (μ := fun x => ms.length - x.1) (S := fun x => x.1 ≤ ms.length) (0, none, 0, none, 0, A, c) (Nat.zero_le _) ⟨rfl, rfl, rfl, rfl, rfl, trivial⟩ (by
        show DropTo _ (.own none 0 0 95 7 [] :: .own none 0 0 103 3 [] :: refB p A c l (.blk g4 29 o.enc :: F))
        (repeat (first | exact dt_end | (apply dt_cons; · (repeat (first | exact sel0 | apply selS))) | apply dt_skip))) ?_
    rintro ⟨k, Af, cf, Ag, cg, A1, c1⟩ hk
    dsimp only at hk ⊢
    have hfc := runX_facts (o := o) (l := l) (fun x hx => (hlf x hx).1) (by omega) k hk
    have hBs : BookB (runX o l (ms.take k)).bk := runX_B hB
    by_cases hz : (runX o l (ms.take k)).left = 0
    · have hsf : runX o l (ms.take k) = runX o l (meetsO how o l) := by rw [hms]; exact (runX_stop hz).symm
      generalize runX o l (ms.take k) = s at hfc hBs hz hsf ⊢
      have hrs : doV how o l = ⟨s.fills, s.gones, s.left, 0, restX how o s⟩ := by unfold doV; rw [if_pos hw0, ← hsf]
      rw [hrs]
      by_cases hst : staysB how = true ∧ s.left > 0
      · have hrx : restX how o s = addO { o with left := s.left } s.bk := by unfold restX; rw [if_pos hst]
        rw [hrx]
        have hst2 := hst.2
        have hhow : how = 0 ∨ how = 3 := by have := hst.1; simpa [staysB] using this
        have hadd :=  ref14_Add W (.own Af s.fills.length cf 95 7 (s.fills.flatMap FillR.enc) :: .own Ag s.gones.length cg 103 3 (s.gones.flatMap GoneR.enc) :: .blk g4 29 (Order.enc { o with left := s.left }) ::  F) p A1 c1 s.bk { o with left := s.left } hBs.le
        repeat' (first
          | apply aw_seq | apply aw_region | apply aw_ret | apply aw_skip | apply aw_exit | apply aw_block | apply es_nil
          | (apply es_pure hT; (iterate 4 exact rfl)) | (apply es_skip; (iterate 3 exact rfl)) | (apply es_skip0; (iterate 2 exact rfl))
          | (apply es_i64 hT; (iterate 4 exact rfl); (iterate 2 (first | omega | (dsimp only; omega))))
          | (apply es_call (hs := (FSpec.perm (hadd ) (by (repeat (first | exact List.Perm.refl _ | (apply permC; · (repeat (first | exact sel0 | apply selS)))))))); (iterate 7 exact rfl); rintro _ _ ⟨rfl, A9, c9, rfl⟩)
          | (apply aw_draw [] [] hmix; decide +kernel)
          | (apply es_store hT; (iterate 6 exact rfl); (repeat (first | exact sel0 | apply selS)); (iterate 3 exact rfl); exact Nat.le_of_ble_eq_true rfl)
          | (apply es_load; (iterate 5 exact rfl); first | (apply ld_blk hT; exact rfl; exact rfl; (repeat (first | exact List.mem_cons_self | apply List.mem_cons_of_mem)); exact rfl; exact rfl) | (apply ld_all hT; exact rfl; exact rfl; (repeat (first | exact List.mem_cons_self | apply List.mem_cons_of_mem)); exact rfl))
          | (apply es_box; (iterate 5 exact rfl); intro _) | (apply es_alloc hT; (iterate 5 exact rfl); intro _)
          | (apply aw_condT; (iterate 2 exact rfl)) | (apply aw_condF; (iterate 2 exact rfl))
          | (apply es_case; exact rfl; all_goals intro hb; all_goals (fail_if_success (change true = true at hb)); all_goals (fail_if_success (change false = false at hb)); all_goals (try dsimp only at hb); all_goals (try simp only [hb]); all_goals (first | replace hb := of_decide_eq_true hb | replace hb := of_decide_eq_false hb | replace hb := bne_t hb | replace hb := bne_f hb | replace hb := eq_of_beq hb | replace hb := ne_of_beq_false hb | skip); all_goals (try (exfalso; omega)))
          | (apply aw_cond; exact rfl; all_goals intro hb; all_goals (try dsimp only at hb); all_goals (try simp only [hb]); all_goals (first | replace hb := of_decide_eq_true hb | replace hb := of_decide_eq_false hb | replace hb := bne_t hb | replace hb := bne_f hb | replace hb := eq_of_beq hb | replace hb := ne_of_beq_false hb | skip); all_goals (try (exfalso; omega))))
        all_goals first
          | (exfalso; omega)
          | (apply ret4; exact rfl; exact rfl; exact rfl; exact rfl
             exact ⟨.own Af s.fills.length cf 95 7 (s.fills.flatMap FillR.enc) :: .own Ag s.gones.length cg 103 3 (s.gones.flatMap GoneR.enc) :: refB p A9 c9 (addO { o with left := s.left } s.bk) F, by (repeat (first | exact dt_end | (apply dt_cons; · (repeat (first | exact sel0 | apply selS))) | apply dt_skip)), fun w hw => ⟨Af, cf, Ag, cg, A9, c9, rfl, rfl, hw.ownF mem0, hw.ownF mem1⟩⟩)
          | skip
      · have hrx : restX how o s = s.bk := by unfold restX; rw [if_neg hst]
        rw [hrx]
        have hno : ¬ ((how = 0 ∨ how = 3) ∧ s.left > 0) := fun h => hst ⟨by simp [staysB, h.1], h.2⟩
        repeat' (first
          | apply aw_seq | apply aw_region | apply aw_ret | apply aw_skip | apply aw_exit | apply aw_block | apply es_nil
          | (apply es_pure hT; (iterate 4 exact rfl)) | (apply es_skip; (iterate 3 exact rfl)) | (apply es_skip0; (iterate 2 exact rfl))
          | (apply es_i64 hT; (iterate 4 exact rfl); (iterate 2 (first | omega | (dsimp only; omega))))
          | (apply aw_draw [] [] hmix; decide +kernel)
          | (apply es_store hT; (iterate 6 exact rfl); (repeat (first | exact sel0 | apply selS)); (iterate 3 exact rfl); exact Nat.le_of_ble_eq_true rfl)
          | (apply es_load; (iterate 5 exact rfl); first | (apply ld_blk hT; exact rfl; exact rfl; (repeat (first | exact List.mem_cons_self | apply List.mem_cons_of_mem)); exact rfl; exact rfl) | (apply ld_all hT; exact rfl; exact rfl; (repeat (first | exact List.mem_cons_self | apply List.mem_cons_of_mem)); exact rfl))
          | (apply es_box; (iterate 5 exact rfl); intro _) | (apply es_alloc hT; (iterate 5 exact rfl); intro _)
          | (apply aw_condT; (iterate 2 exact rfl)) | (apply aw_condF; (iterate 2 exact rfl))
          | (apply es_case; exact rfl; all_goals intro hb; all_goals (fail_if_success (change true = true at hb)); all_goals (fail_if_success (change false = false at hb)); all_goals (try dsimp only at hb); all_goals (try simp only [hb]); all_goals (first | replace hb := of_decide_eq_true hb | replace hb := of_decide_eq_false hb | replace hb := bne_t hb | replace hb := bne_f hb | replace hb := eq_of_beq hb | replace hb := ne_of_beq_false hb | skip); all_goals (try (exfalso; omega)))
          | (apply aw_cond; exact rfl; all_goals intro hb; all_goals (try dsimp only at hb); all_goals (try simp only [hb]); all_goals (first | replace hb := of_decide_eq_true hb | replace hb := of_decide_eq_false hb | replace hb := bne_t hb | replace hb := bne_f hb | replace hb := eq_of_beq hb | replace hb := ne_of_beq_false hb | skip); all_goals (try (exfalso; omega))))
        all_goals first
          | (exfalso; omega)
          | (apply ret4; exact rfl; exact rfl; exact rfl; exact rfl
             exact ⟨.own Af s.fills.length cf 95 7 (s.fills.flatMap FillR.enc) :: .own Ag s.gones.length cg 103 3 (s.gones.flatMap GoneR.enc) :: refB p A1 c1 s.bk F, by (repeat (first | exact dt_end | (apply dt_cons; · (repeat (first | exact sel0 | apply selS))) | apply dt_skip)), fun w hw => ⟨Af, cf, Ag, cg, A1, c1, rfl, rfl, hw.ownF mem0, hw.ownF mem1⟩⟩)
          | skip
    · have hrk := hrun k hk hz
      have hzp : decide ((runX o l (ms.take k)).left > 0) = true := by simp; omega
      have hF := fun h m1 m2 => (ref15_first W p A1 c1 (runX o l (ms.take k)).bk o how hBs).mono (h' := h) (memPairB m1 m2)
      have hFe : ∀ (o2 : Order) (bk : List Order), o2.side = o.side → o2.price = o.price → meetsO how o2 bk = meetsO how o bk := fun o2 bk e1 e2 => by
        have : takesB how o2 = takesB how o := by funext x; unfold takesB; rw [e1, e2]
        unfold meetsO; rw [this, e1]
      have hF := fun h m1 m2 => (ref15_first W p A1 c1 (runX o l (ms.take k)).bk { o with left := (runX o l (ms.take k)).left } how hBs).mono (h' := h) (memPairB m1 m2)
      rw [hFe { o with left := (runX o l (ms.take k)).left } (runX o l (ms.take k)).bk rfl rfl, hrk] at hF
      by_cases hlt : k < ms.length
      · obtain ⟨x, hx⟩ : ∃ x, ms[k]? = some x := ⟨ms[k]'(by omega), List.getElem?_eq_getElem (by omega)⟩
        have hhd : (ms.drop k).head? = some x := by rw [List.head?_drop]; exact hx
        rw [hhd] at hF
        have hst := runX_step (o := o) (l := l) hx
        have hxl := hlf x (List.mem_of_getElem? hx)
        generalize runX o l (ms.take k) = s at hfc hBs hz hzp hst hF ⊢
        unfold stepX at hst
        rw [if_neg hz] at hst
        by_cases hown : x.owner = o.owner
        · rw [if_pos hown] at hst
          have hdr := fun g13 => ref14_Drop W (.blk g13 29 x.enc :: .own Af s.fills.length cf 95 7 (s.fills.flatMap FillR.enc) :: .own Ag s.gones.length cg 103 3 (s.gones.flatMap GoneR.enc) :: .blk g4 29 (Order.enc { o with left := s.left }) :: F) p A1 c1 s.bk x.id hBs.le
          repeat' (first
            | apply aw_seq | apply aw_region | apply aw_ret | apply aw_skip | apply aw_exit | apply aw_block | apply es_nil
            | (apply es_pure hT; (iterate 4 exact rfl)) | (apply es_skip; (iterate 3 exact rfl)) | (apply es_skip0; (iterate 2 exact rfl))
            | (apply es_i64 hT; (iterate 4 exact rfl); (iterate 2 (first | omega | (dsimp only; omega))))
            | (apply aw_draw [] [] hmix; decide +kernel)
            | (apply es_callQ (hs := (hF _ (by (repeat (first | exact List.mem_cons_self | apply List.mem_cons_of_mem))) (by (repeat (first | exact List.mem_cons_self | apply List.mem_cons_of_mem))))); (iterate 7 exact rfl))
            | (apply es_alloc hT; (iterate 5 exact rfl); first | ((fail_if_success (have q := g13)); intro g13) | intro _)
            | (apply es_store hT; (iterate 6 exact rfl); (repeat (first | exact sel0 | apply selS)); (iterate 3 exact rfl); exact Nat.le_of_ble_eq_true rfl)
            | (apply es_call (hs := (FSpec.perm (hdr g13) (by (repeat (first | exact List.Perm.refl _ | (apply permC; · (repeat (first | exact sel0 | apply selS)))))))); (iterate 7 exact rfl); rintro _ _ ⟨rfl, A9, c9, rfl⟩)
            | (apply es_buildS hT (cs := GoneR.enc ⟨x.id, x.owner, x.left⟩); (iterate 4 exact rfl))
            | (apply es_buildSlice hT; (iterate 12 exact rfl); intro g)
            | (apply es_append hT; (iterate 10 exact rfl); (repeat (first | exact sel0 | apply selS)); exact Reads.own mem0 rfl (GoneR.enc_one ⟨x.id, x.owner, x.left⟩); omega; (show (_ : Nat) * 24 ≤ _; omega); intro A' c')
            | (apply es_load; (iterate 5 exact rfl); first | (apply ld_blk hT; exact rfl; exact rfl; (repeat (first | exact List.mem_cons_self | apply List.mem_cons_of_mem)); exact rfl; exact rfl) | (apply ld_all hT; exact rfl; exact rfl; (repeat (first | exact List.mem_cons_self | apply List.mem_cons_of_mem)); exact rfl))
            | (apply es_box; (iterate 5 exact rfl); intro _) | (apply es_alloc hT; (iterate 5 exact rfl); intro _)
            | (apply aw_condT; (iterate 2 exact rfl)) | (apply aw_condF; (iterate 2 exact rfl))
            | (apply es_case; exact rfl; all_goals intro hb; all_goals (fail_if_success (change true = true at hb)); all_goals (fail_if_success (change false = false at hb)); all_goals (try dsimp only at hb); all_goals (try simp only [hb]); all_goals (first | replace hb := of_decide_eq_true hb | replace hb := of_decide_eq_false hb | replace hb := bne_t hb | replace hb := bne_f hb | replace hb := eq_of_beq hb | replace hb := ne_of_beq_false hb | skip); all_goals (try (exfalso; omega)))
            | (apply aw_cond; exact rfl; all_goals intro hb; all_goals (try dsimp only at hb); all_goals (try simp only [hb]); all_goals (first | replace hb := of_decide_eq_true hb | replace hb := of_decide_eq_false hb | replace hb := bne_t hb | replace hb := bne_f hb | replace hb := eq_of_beq hb | replace hb := ne_of_beq_false hb | skip); all_goals (try (exfalso; omega))))
          all_goals first
            | (exfalso; omega)
            | (apply seqblk
               refine loopq_end (k + 1, Af, cf, A', c', A9, c9) (by (try dsimp only); omega) (by (try dsimp only); omega) ?_ ?_
               · dsimp only; rw [hst]; exact ⟨rfl, rfl, rfl, rfl, by rw [List.length_append]; rfl, trivial⟩
               · dsimp only; rw [hst]; dsimp only; rw [List.length_append, List.flatMap_append]; (repeat (first | exact dt_end | (apply dt_cons; · (repeat (first | exact sel0 | apply selS))) | apply dt_skip)))
            | skip
        · rw [if_neg hown] at hst
          rw [Int.min_comm] at hst
          generalize hn : min x.left s.left = n at hst
          have hdr := fun g13 => ref14_Drop W (.blk g13 29 x.enc :: .own Af s.fills.length cf 95 7 (s.fills.flatMap FillR.enc) :: .own Ag s.gones.length cg 103 3 (s.gones.flatMap GoneR.enc) :: .blk g4 29 (Order.enc { o with left := s.left }) :: F) p A1 c1 s.bk x.id hBs.le
          have hls := fun g13 => ref14_Less W (.blk g13 29 x.enc :: .own Af s.fills.length cf 95 7 (s.fills.flatMap FillR.enc) :: .own Ag s.gones.length cg 103 3 (s.gones.flatMap GoneR.enc) :: .blk g4 29 (Order.enc { o with left := s.left }) :: F) p A1 c1 s.bk x.id (x.left - n) hBs.le
          by_cases hc : n = x.left
          · rw [if_pos hc] at hst
            have hc2 : (n == x.left) = true := by simpa using hc
            repeat' (first
              | apply aw_seq | apply aw_region | apply aw_ret | apply aw_skip | apply aw_exit | apply aw_block | apply es_nil
              | (apply es_pure hT; (iterate 4 exact rfl)) | (apply es_skip; (iterate 3 exact rfl)) | (apply es_skip0; (iterate 2 exact rfl))
              | (apply es_i64 hT; (iterate 4 exact rfl); (iterate 2 (first | omega | (dsimp only; omega))))
              | (apply aw_draw [] [] hmix; decide +kernel)
              | (apply es_callQ (hs := (hF _ (by (repeat (first | exact List.mem_cons_self | apply List.mem_cons_of_mem))) (by (repeat (first | exact List.mem_cons_self | apply List.mem_cons_of_mem))))); (iterate 7 exact rfl))
              | (apply es_alloc hT; (iterate 5 exact rfl); first | ((fail_if_success (have q := g13)); intro g13) | intro _)
              | (apply es_min; (iterate 5 exact rfl); rw [hn])
              | (apply es_store hT; (iterate 6 exact rfl); (repeat (first | exact sel0 | apply selS)); (iterate 3 exact rfl); exact Nat.le_of_ble_eq_true rfl)
              | (apply es_call (hs := (FSpec.perm (hdr g13) (by (repeat (first | exact List.Perm.refl _ | (apply permC; · (repeat (first | exact sel0 | apply selS)))))))); (iterate 7 exact rfl); rintro _ _ ⟨rfl, A9, c9, rfl⟩)
              | (apply es_buildS hT (cs := FillR.enc ⟨x.id, o.id, x.owner, o.owner, x.price, n, x.left - n⟩); (iterate 4 exact rfl))
              | (apply es_buildSlice hT; (iterate 12 exact rfl); intro g)
              | (apply es_append hT; (iterate 10 exact rfl); (repeat (first | exact sel0 | apply selS)); exact Reads.own mem0 rfl (FillR.enc_one ⟨x.id, o.id, x.owner, o.owner, x.price, n, x.left - n⟩); omega; (show (_ : Nat) * 56 ≤ _; omega); intro A' c')
              | (apply es_load; (iterate 5 exact rfl); first | (apply ld_blk hT; exact rfl; exact rfl; (repeat (first | exact List.mem_cons_self | apply List.mem_cons_of_mem)); exact rfl; exact rfl) | (apply ld_all hT; exact rfl; exact rfl; (repeat (first | exact List.mem_cons_self | apply List.mem_cons_of_mem)); exact rfl))
              | (apply es_box; (iterate 5 exact rfl); intro _) | (apply es_alloc hT; (iterate 5 exact rfl); intro _)
              | (apply aw_condT; (iterate 2 exact rfl)) | (apply aw_condF; (iterate 2 exact rfl))
              | (apply es_case; exact rfl; all_goals intro hb; all_goals (fail_if_success (change true = true at hb)); all_goals (fail_if_success (change false = false at hb)); all_goals (try dsimp only at hb); all_goals (try simp only [hb]); all_goals (first | replace hb := of_decide_eq_true hb | replace hb := of_decide_eq_false hb | replace hb := bne_t hb | replace hb := bne_f hb | replace hb := eq_of_beq hb | replace hb := ne_of_beq_false hb | skip); all_goals (try (exfalso; omega)))
              | (apply aw_cond; exact rfl; all_goals intro hb; all_goals (try dsimp only at hb); all_goals (try simp only [hb]); all_goals (first | replace hb := of_decide_eq_true hb | replace hb := of_decide_eq_false hb | replace hb := bne_t hb | replace hb := bne_f hb | replace hb := eq_of_beq hb | replace hb := ne_of_beq_false hb | skip); all_goals (try (exfalso; omega))))
            all_goals first
              | (exfalso; omega)
              | (apply blockq_n
                 refine loopq_end (k + 1, A', c', Ag, cg, A9, c9) (by (try dsimp only); omega) (by (try dsimp only); omega) ?_ ?_
                 · dsimp only; rw [hst]; exact ⟨rfl, rfl, rfl, by rw [List.length_append]; rfl, rfl, trivial⟩
                 · dsimp only; rw [hst]; dsimp only; rw [List.length_append, List.flatMap_append]; (repeat (first | exact dt_end | (apply dt_cons; · (repeat (first | exact sel0 | apply selS))) | apply dt_skip)))
              | skip
          · rw [if_neg hc] at hst
            have hc2 : (n == x.left) = false := by simpa using hc
            repeat' (first
              | apply aw_seq | apply aw_region | apply aw_ret | apply aw_skip | apply aw_exit | apply aw_block | apply es_nil
              | (apply es_pure hT; (iterate 4 exact rfl)) | (apply es_skip; (iterate 3 exact rfl)) | (apply es_skip0; (iterate 2 exact rfl))
              | (apply es_i64 hT; (iterate 4 exact rfl); (iterate 2 (first | omega | (dsimp only; omega))))
              | (apply aw_draw [] [] hmix; decide +kernel)
              | (apply es_callQ (hs := (hF _ (by (repeat (first | exact List.mem_cons_self | apply List.mem_cons_of_mem))) (by (repeat (first | exact List.mem_cons_self | apply List.mem_cons_of_mem))))); (iterate 7 exact rfl))
              | (apply es_alloc hT; (iterate 5 exact rfl); first | ((fail_if_success (have q := g13)); intro g13) | intro _)
              | (apply es_min; (iterate 5 exact rfl); rw [hn])
              | (apply es_store hT; (iterate 6 exact rfl); (repeat (first | exact sel0 | apply selS)); (iterate 3 exact rfl); exact Nat.le_of_ble_eq_true rfl)
              | (apply es_call (hs := (FSpec.perm (hls g13) (by (repeat (first | exact List.Perm.refl _ | (apply permC; · (repeat (first | exact sel0 | apply selS)))))))); (iterate 7 exact rfl); rintro _ _ ⟨rfl, A9, c9, rfl⟩)
              | (apply es_buildS hT (cs := FillR.enc ⟨x.id, o.id, x.owner, o.owner, x.price, n, x.left - n⟩); (iterate 4 exact rfl))
              | (apply es_buildSlice hT; (iterate 12 exact rfl); intro g)
              | (apply es_append hT; (iterate 10 exact rfl); (repeat (first | exact sel0 | apply selS)); exact Reads.own mem0 rfl (FillR.enc_one ⟨x.id, o.id, x.owner, o.owner, x.price, n, x.left - n⟩); omega; (show (_ : Nat) * 56 ≤ _; omega); intro A' c')
              | (apply es_load; (iterate 5 exact rfl); first | (apply ld_blk hT; exact rfl; exact rfl; (repeat (first | exact List.mem_cons_self | apply List.mem_cons_of_mem)); exact rfl; exact rfl) | (apply ld_all hT; exact rfl; exact rfl; (repeat (first | exact List.mem_cons_self | apply List.mem_cons_of_mem)); exact rfl))
              | (apply es_box; (iterate 5 exact rfl); intro _) | (apply es_alloc hT; (iterate 5 exact rfl); intro _)
              | (apply aw_condT; (iterate 2 exact rfl)) | (apply aw_condF; (iterate 2 exact rfl))
              | (apply es_case; exact rfl; all_goals intro hb; all_goals (fail_if_success (change true = true at hb)); all_goals (fail_if_success (change false = false at hb)); all_goals (try dsimp only at hb); all_goals (try simp only [hb]); all_goals (first | replace hb := of_decide_eq_true hb | replace hb := of_decide_eq_false hb | replace hb := bne_t hb | replace hb := bne_f hb | replace hb := eq_of_beq hb | replace hb := ne_of_beq_false hb | skip); all_goals (try (exfalso; omega)))
              | (apply aw_cond; exact rfl; all_goals intro hb; all_goals (try dsimp only at hb); all_goals (try simp only [hb]); all_goals (first | replace hb := of_decide_eq_true hb | replace hb := of_decide_eq_false hb | replace hb := bne_t hb | replace hb := bne_f hb | replace hb := eq_of_beq hb | replace hb := ne_of_beq_false hb | skip); all_goals (try (exfalso; omega))))
            all_goals first
              | (exfalso; omega)
              | (apply blockq_n
                 refine loopq_end (k + 1, A', c', Ag, cg, A9, c9) (by (try dsimp only); omega) (by (try dsimp only); omega) ?_ ?_
                 · dsimp only; rw [hst]; exact ⟨rfl, rfl, rfl, by rw [List.length_append]; rfl, rfl, trivial⟩
                 · dsimp only; rw [hst]; dsimp only; rw [List.length_append, List.flatMap_append]; (repeat (first | exact dt_end | (apply dt_cons; · (repeat (first | exact sel0 | apply selS))) | apply dt_skip)))
              | skip
      · obtain rfl : k = ms.length := by omega
        have hhd : (ms.drop ms.length).head? = none := by simp
        rw [hhd] at hF
        have hsf : runX o l (ms.take ms.length) = runX o l (meetsO how o l) := by rw [hms, List.take_length]
        generalize runX o l (ms.take ms.length) = s at hfc hBs hz hzp hsf hF ⊢
        have hrs : doV how o l = ⟨s.fills, s.gones, s.left, 0, restX how o s⟩ := by unfold doV; rw [if_pos hw0, ← hsf]
        rw [hrs]
        by_cases hst : staysB how = true ∧ s.left > 0
        · have hrx : restX how o s = addO { o with left := s.left } s.bk := by unfold restX; rw [if_pos hst]
          rw [hrx]
          have hst2 := hst.2
          have hhow : how = 0 ∨ how = 3 := by have := hst.1; simpa [staysB] using this
          have hadd := fun g13 => ref14_Add W (.own Af s.fills.length cf 95 7 (s.fills.flatMap FillR.enc) :: .own Ag s.gones.length cg 103 3 (s.gones.flatMap GoneR.enc) :: .blk g4 29 (Order.enc { o with left := s.left }) :: .blk g13 29 zeroO.enc :: F) p A1 c1 s.bk { o with left := s.left } hBs.le
          repeat' (first
            | apply aw_seq | apply aw_region | apply aw_ret | apply aw_skip | apply aw_exit | apply aw_block | apply es_nil
            | (apply es_pure hT; (iterate 4 exact rfl)) | (apply es_skip; (iterate 3 exact rfl)) | (apply es_skip0; (iterate 2 exact rfl))
            | (apply es_i64 hT; (iterate 4 exact rfl); (iterate 2 (first | omega | (dsimp only; omega))))
            | (apply es_callQ (hs := (hF _ (by (repeat (first | exact List.mem_cons_self | apply List.mem_cons_of_mem))) (by (repeat (first | exact List.mem_cons_self | apply List.mem_cons_of_mem))))); (iterate 7 exact rfl))
            | (apply es_alloc hT; (iterate 5 exact rfl); first | ((fail_if_success (have q := g13)); intro g13) | intro _)
            | (apply es_call (hs := (FSpec.perm (hadd g13) (by (repeat (first | exact List.Perm.refl _ | (apply permC; · (repeat (first | exact sel0 | apply selS)))))))); (iterate 7 exact rfl); rintro _ _ ⟨rfl, A9, c9, rfl⟩)
            | (apply aw_draw [] [] hmix; decide +kernel)
            | (apply es_store hT; (iterate 6 exact rfl); (repeat (first | exact sel0 | apply selS)); (iterate 3 exact rfl); exact Nat.le_of_ble_eq_true rfl)
            | (apply es_load; (iterate 5 exact rfl); first | (apply ld_blk hT; exact rfl; exact rfl; (repeat (first | exact List.mem_cons_self | apply List.mem_cons_of_mem)); exact rfl; exact rfl) | (apply ld_all hT; exact rfl; exact rfl; (repeat (first | exact List.mem_cons_self | apply List.mem_cons_of_mem)); exact rfl))
            | (apply es_box; (iterate 5 exact rfl); intro _) | (apply es_alloc hT; (iterate 5 exact rfl); intro _)
            | (apply aw_condT; (iterate 2 exact rfl)) | (apply aw_condF; (iterate 2 exact rfl))
            | (apply es_case; exact rfl; all_goals intro hb; all_goals (fail_if_success (change true = true at hb)); all_goals (fail_if_success (change false = false at hb)); all_goals (try dsimp only at hb); all_goals (try simp only [hb]); all_goals (first | replace hb := of_decide_eq_true hb | replace hb := of_decide_eq_false hb | replace hb := bne_t hb | replace hb := bne_f hb | replace hb := eq_of_beq hb | replace hb := ne_of_beq_false hb | skip); all_goals (try (exfalso; omega)))
            | (apply aw_cond; exact rfl; all_goals intro hb; all_goals (try dsimp only at hb); all_goals (try simp only [hb]); all_goals (first | replace hb := of_decide_eq_true hb | replace hb := of_decide_eq_false hb | replace hb := bne_t hb | replace hb := bne_f hb | replace hb := eq_of_beq hb | replace hb := ne_of_beq_false hb | skip); all_goals (try (exfalso; omega))))
          all_goals first
            | (exfalso; omega)
            | (apply ret4; exact rfl; exact rfl; exact rfl; exact rfl
               exact ⟨.own Af s.fills.length cf 95 7 (s.fills.flatMap FillR.enc) :: .own Ag s.gones.length cg 103 3 (s.gones.flatMap GoneR.enc) :: refB p A9 c9 (addO { o with left := s.left } s.bk) F, by (repeat (first | exact dt_end | (apply dt_cons; · (repeat (first | exact sel0 | apply selS))) | apply dt_skip)), fun w hw => ⟨Af, cf, Ag, cg, A9, c9, rfl, rfl, hw.ownF mem0, hw.ownF mem1⟩⟩)
            | skip
        · have hrx : restX how o s = s.bk := by unfold restX; rw [if_neg hst]
          rw [hrx]
          have hno : ¬ ((how = 0 ∨ how = 3) ∧ s.left > 0) := fun h => hst ⟨by simp [staysB, h.1], h.2⟩
          repeat' (first
            | apply aw_seq | apply aw_region | apply aw_ret | apply aw_skip | apply aw_exit | apply aw_block | apply es_nil
            | (apply es_pure hT; (iterate 4 exact rfl)) | (apply es_skip; (iterate 3 exact rfl)) | (apply es_skip0; (iterate 2 exact rfl))
            | (apply es_i64 hT; (iterate 4 exact rfl); (iterate 2 (first | omega | (dsimp only; omega))))
            | (apply es_callQ (hs := (hF _ (by (repeat (first | exact List.mem_cons_self | apply List.mem_cons_of_mem))) (by (repeat (first | exact List.mem_cons_self | apply List.mem_cons_of_mem))))); (iterate 7 exact rfl))
            | (apply es_alloc hT; (iterate 5 exact rfl); first | ((fail_if_success (have q := g13)); intro g13) | intro _)
            | (apply aw_draw [] [] hmix; decide +kernel)
            | (apply es_store hT; (iterate 6 exact rfl); (repeat (first | exact sel0 | apply selS)); (iterate 3 exact rfl); exact Nat.le_of_ble_eq_true rfl)
            | (apply es_load; (iterate 5 exact rfl); first | (apply ld_blk hT; exact rfl; exact rfl; (repeat (first | exact List.mem_cons_self | apply List.mem_cons_of_mem)); exact rfl; exact rfl) | (apply ld_all hT; exact rfl; exact rfl; (repeat (first | exact List.mem_cons_self | apply List.mem_cons_of_mem)); exact rfl))
            | (apply es_box; (iterate 5 exact rfl); intro _) | (apply es_alloc hT; (iterate 5 exact rfl); intro _)
            | (apply aw_condT; (iterate 2 exact rfl)) | (apply aw_condF; (iterate 2 exact rfl))
            | (apply es_case; exact rfl; all_goals intro hb; all_goals (fail_if_success (change true = true at hb)); all_goals (fail_if_success (change false = false at hb)); all_goals (try dsimp only at hb); all_goals (try simp only [hb]); all_goals (first | replace hb := of_decide_eq_true hb | replace hb := of_decide_eq_false hb | replace hb := bne_t hb | replace hb := bne_f hb | replace hb := eq_of_beq hb | replace hb := ne_of_beq_false hb | skip); all_goals (try (exfalso; omega)))
            | (apply aw_cond; exact rfl; all_goals intro hb; all_goals (try dsimp only at hb); all_goals (try simp only [hb]); all_goals (first | replace hb := of_decide_eq_true hb | replace hb := of_decide_eq_false hb | replace hb := bne_t hb | replace hb := bne_f hb | replace hb := eq_of_beq hb | replace hb := ne_of_beq_false hb | skip); all_goals (try (exfalso; omega))))
          all_goals first
            | (exfalso; omega)
            | (apply ret4; exact rfl; exact rfl; exact rfl; exact rfl
               exact ⟨.own Af s.fills.length cf 95 7 (s.fills.flatMap FillR.enc) :: .own Ag s.gones.length cg 103 3 (s.gones.flatMap GoneR.enc) :: refB p A1 c1 s.bk F, by (repeat (first | exact dt_end | (apply dt_cons; · (repeat (first | exact sel0 | apply selS))) | apply dt_skip)), fun w hw => ⟨Af, cf, Ag, cg, A1, c1, rfl, rfl, hw.ownF mem0, hw.ownF mem1⟩⟩)
            | skip
  · have hd : doV how o l = ⟨[], [], 0, wrongV how o l, l⟩ := by unfold doV; rw [if_neg hw0]
    rw [hd]
    have hne : (wrongV how o l != 0) = true := by simp [hw0]
    generalize wrongV how o l = e at hW' hw0 hne
    refine aw_conv (fun w hw => ⟨_, (hw.own_nil 103 3).own_nil 95 7, ?_⟩)
    repeat' (first
      | apply aw_seq | apply aw_region | apply aw_ret | apply aw_skip | apply aw_exit | apply aw_block | apply es_nil
      | (apply es_pure hT; (iterate 4 exact rfl)) | (apply es_skip; (iterate 3 exact rfl)) | (apply es_skip0; (iterate 2 exact rfl))
      | (apply es_i64 hT; (iterate 4 exact rfl); (iterate 2 (first | omega | (dsimp only; omega))))
      | (apply aw_draw [] [] hmix; decide +kernel)
      | (apply es_box; (iterate 5 exact rfl); intro g4)
      | (apply es_callQ (hs := (hW' _ (by (repeat (first | exact List.mem_cons_self | apply List.mem_cons_of_mem))) (by (repeat (first | exact List.mem_cons_self | apply List.mem_cons_of_mem))))); (iterate 7 exact rfl))
      | (apply es_load; (iterate 5 exact rfl); first | (apply ld_blk hT; exact rfl; exact rfl; (repeat (first | exact List.mem_cons_self | apply List.mem_cons_of_mem)); exact rfl; exact rfl) | (apply ld_all hT; exact rfl; exact rfl; (repeat (first | exact List.mem_cons_self | apply List.mem_cons_of_mem)); exact rfl))
      | (apply es_box; (iterate 5 exact rfl); intro _) | (apply es_alloc hT; (iterate 5 exact rfl); intro _)
      | (apply aw_condT; (iterate 2 exact rfl)) | (apply aw_condF; (iterate 2 exact rfl))
      | (apply es_case; exact rfl; all_goals intro hb; all_goals (fail_if_success (change true = true at hb)); all_goals (fail_if_success (change false = false at hb)); all_goals (try dsimp only at hb); all_goals (try simp only [hb]); all_goals (first | replace hb := of_decide_eq_true hb | replace hb := of_decide_eq_false hb | replace hb := bne_t hb | replace hb := bne_f hb | replace hb := eq_of_beq hb | replace hb := ne_of_beq_false hb | skip); all_goals (try (exfalso; omega)))
      | (apply aw_cond; exact rfl; all_goals intro hb; all_goals (try dsimp only at hb); all_goals (try simp only [hb]); all_goals (first | replace hb := of_decide_eq_true hb | replace hb := of_decide_eq_false hb | replace hb := bne_t hb | replace hb := bne_f hb | replace hb := eq_of_beq hb | replace hb := ne_of_beq_false hb | skip); all_goals (try (exfalso; omega))))
    all_goals first
      | (exfalso; omega)
      | (apply ret4; exact rfl; exact rfl; exact rfl; exact rfl
         exact ⟨.own none 0 0 95 7 [] :: .own none 0 0 103 3 [] :: refB p A c l F, by (repeat (first | exact dt_end | (apply dt_cons; · (repeat (first | exact sel0 | apply selS))) | apply dt_skip)), fun w hw => ⟨none, 0, none, 0, A, c, rfl, rfl, hw.ownF mem0, hw.ownF mem1⟩⟩)
      | (exfalso; simp_all; done)
      | skip
end Go.Proofs.Ytiefkpfamkkapaa
