/- What the statement CrossWhole answers. Conditions stand in each statement. -/
import Derived.Test.YtiefkpfamkkapaaCrossQ
set_option linter.unusedSimpArgs false
set_option linter.unusedVariables false
namespace Go.Proofs.Ytiefkpfamkkapaa
open Go Go.Sl
attribute [local irreducible] AW ES EP Ld RetQ
set_option maxRecDepth 100000

theorem sumQ_cons (f : FillR) (l : List FillR) : sumQ (f :: l) = f.qty + sumQ l := by simp [sumQ]
theorem sumQ_take {l : List FillR} (h : ∀ f ∈ l, 1 ≤ f.qty) : ∀ k, 0 ≤ sumQ (l.take k) ∧ sumQ (l.take k) ≤ sumQ l := by
  induction l with
  | nil => intro k; simp [sumQ]
  | cons x l ih =>
    intro k
    have hx := h x List.mem_cons_self
    have h0 := (ih (fun f hf => h f (List.mem_cons_of_mem _ hf)) 0)
    cases k with
    | zero => rw [List.take_zero, sumQ_cons]; simp only [List.take_zero] at h0; have : sumQ [] = 0 := rfl; omega
    | succ k => have := ih (fun f hf => h f (List.mem_cons_of_mem _ hf)) k; rw [List.take_succ_cons, sumQ_cons, sumQ_cons]; omega
theorem way_qty {o : Order} {l done : List Order} {s : XSt} (h : WayX o l done s) : ∀ f ∈ s.fills, 1 ≤ f.qty := fun f hf => by
  obtain ⟨xs, h1, h2, h3⟩ := h.mks
  obtain ⟨i, hi⟩ := List.getElem?_of_mem hf
  have hlt := (List.getElem?_eq_some_iff.1 hi).1
  exact (h3 i f (xs[i]'(by omega)) hi (List.getElem?_eq_getElem (by omega))).1.qty
theorem whole_new {o : Order} {l : List Order} (hok : okO o = true) (hcl : idxOf (clashO o) l < 0) : newB 2 o l = true := by
  unfold newB
  rw [show asX 2 o = o from rfl, hok, decide_eq_true hcl]; rfl
theorem whole_kill {o : Order} {l : List Order} (hok : okO o = true) (hcl : idxOf (clashO o) l < 0) (hw : wouldV 2 o l < o.left) : doV 2 o l = ⟨[], [], 0, 17, l⟩ := by
  have hwr : wrongV 2 o l = 17 := by
    unfold wrongV
    rw [if_neg (by rw [whole_new hok hcl]; decide), if_neg (by intro h; exact absurd h.1 (by decide)), if_neg (by intro h; omega), if_pos ⟨rfl, hw⟩]
  rw [doV_bad (by rw [hwr]; decide), hwr]
theorem whole_all {o : Order} {l : List Order} (hB : BookB l) (hok : okO o = true) (hcl : idxOf (clashO o) l < 0) (hw : ¬ wouldV 2 o l < o.left) : (doV 2 o l).left = 0 ∧ (doV 2 o l).err = 0 ∧ sumQ (doV 2 o l).fills = o.left ∧ ∀ f ∈ (doV 2 o l).fills, 1 ≤ f.qty := by
  have hol := okO_left hok
  have hsd := okO_side hok
  have hwr : wrongV 2 o l = 0 := by
    unfold wrongV
    rw [if_neg (by rw [whole_new hok hcl]; decide), if_neg (by intro h; exact absurd h.1 (by decide)), if_neg (by intro h; omega), if_neg (by intro h; exact hw h.2)]
  obtain ⟨hw1, e1, e2, e3⟩ := doV_way hB hwr
  have hl := hw1.left
  have hs := hw1.sum
  unfold wouldV at hw
  rw [if_pos hsd] at hw
  have hl0 : (runX o l (meetsO 2 o l)).left = 0 := by omega
  refine ⟨by rw [e2]; exact hl0, e3, by rw [e1, hs, hl0]; omega, by rw [e1]; exact way_qty hw1⟩

set_option maxHeartbeats 2000000 in
theorem cross_Whole (W : World) (A0 : Option Addr) (c0 : Nat) (ls : List Order) (o : Order) (hr0 : Reads W [] A0 ls.length 6 (ls.flatMap Order.enc)) :
    FSpec Try.prog W 19 [.slice A0 ls.length c0, .agg o.enc.toArray] [] (fun v _ => v = .bool true) := by
  refine spec_body Try.func19 rfl rfl Try.results19 Try.ntmps19 rfl rfl ?_
  have hMay := ref14_May W o
  by_cases h1 : ls.length > 60
  · repeat' (first
      | apply aw_seq | apply aw_region | apply aw_ret | apply aw_skip | apply aw_exit | apply aw_block | apply es_nil
      | (apply es_pure hT; (iterate 4 exact rfl)) | (apply es_skip; (iterate 3 exact rfl)) | (apply es_skip0; (iterate 2 exact rfl))
      | (apply es_i64 hT; (iterate 4 exact rfl); (iterate 2 (first | omega | (dsimp only; omega))))
      | (apply aw_draw [] [] hmix; decide +kernel)
      | (apply es_box; (iterate 5 exact rfl); intro g3)
      | (apply es_load; (iterate 5 exact rfl); first | (apply ld_blk hT; exact rfl; exact rfl; (repeat (first | exact List.mem_cons_self | apply List.mem_cons_of_mem)); exact rfl; exact rfl) | (apply ld_all hT; exact rfl; exact rfl; (repeat (first | exact List.mem_cons_self | apply List.mem_cons_of_mem)); exact rfl))
      | (apply es_box; (iterate 5 exact rfl); intro _) | (apply es_alloc hT; (iterate 5 exact rfl); intro _)
      | (apply aw_condT; (iterate 2 exact rfl)) | (apply aw_condF; (iterate 2 exact rfl))
      | (apply es_case; exact rfl; all_goals intro hb; all_goals (try dsimp only at hb); all_goals (try simp only [hb]); all_goals (first | replace hb := of_decide_eq_true hb | replace hb := of_decide_eq_false hb | replace hb := bne_t hb | replace hb := bne_f hb | replace hb := eq_of_beq hb | replace hb := ne_of_beq_false hb | skip); all_goals (try (exfalso; omega)))
      | (apply aw_cond; exact rfl; all_goals intro hb; all_goals (try dsimp only at hb); all_goals (try simp only [hb]); all_goals (first | replace hb := of_decide_eq_true hb | replace hb := of_decide_eq_false hb | replace hb := bne_t hb | replace hb := bne_f hb | replace hb := eq_of_beq hb | replace hb := ne_of_beq_false hb | skip); all_goals (try (exfalso; omega))))
    all_goals first
      | (exfalso; omega)
      | (apply ret1; exact rfl; exact rfl)
  cases hok : okO o
  · rw [hok] at hMay
    repeat' (first
      | apply aw_seq | apply aw_region | apply aw_ret | apply aw_skip | apply aw_exit | apply aw_block | apply es_nil
      | (apply es_pure hT; (iterate 4 exact rfl)) | (apply es_skip; (iterate 3 exact rfl)) | (apply es_skip0; (iterate 2 exact rfl))
      | (apply es_i64 hT; (iterate 4 exact rfl); (iterate 2 (first | omega | (dsimp only; omega))))
      | (apply aw_draw [] [] hmix; decide +kernel)
      | (apply es_box; (iterate 5 exact rfl); intro g3)
      | (apply es_callQ (hs := (hMay.mono (by simp))); (iterate 7 exact rfl))
      | (apply es_load; (iterate 5 exact rfl); first | (apply ld_blk hT; exact rfl; exact rfl; (repeat (first | exact List.mem_cons_self | apply List.mem_cons_of_mem)); exact rfl; exact rfl) | (apply ld_all hT; exact rfl; exact rfl; (repeat (first | exact List.mem_cons_self | apply List.mem_cons_of_mem)); exact rfl))
      | (apply es_box; (iterate 5 exact rfl); intro _) | (apply es_alloc hT; (iterate 5 exact rfl); intro _)
      | (apply aw_condT; (iterate 2 exact rfl)) | (apply aw_condF; (iterate 2 exact rfl))
      | (apply es_case; exact rfl; all_goals intro hb; all_goals (try dsimp only at hb); all_goals (try simp only [hb]); all_goals (first | replace hb := of_decide_eq_true hb | replace hb := of_decide_eq_false hb | replace hb := bne_t hb | replace hb := bne_f hb | replace hb := eq_of_beq hb | replace hb := ne_of_beq_false hb | skip); all_goals (try (exfalso; omega)))
      | (apply aw_cond; exact rfl; all_goals intro hb; all_goals (try dsimp only at hb); all_goals (try simp only [hb]); all_goals (first | replace hb := of_decide_eq_true hb | replace hb := of_decide_eq_false hb | replace hb := bne_t hb | replace hb := bne_f hb | replace hb := eq_of_beq hb | replace hb := ne_of_beq_false hb | skip); all_goals (try (exfalso; omega))))
    all_goals first
      | (exfalso; omega)
      | (apply ret1; exact rfl; exact rfl)
  rw [hok] at hMay
  have hboth := fun g3 => both15 W [.blk g3 29 o.enc] A0 c0 ls (hr0.mono (by simp)) (by omega)
  have hB := bookOf_B ls
  generalize bookOf ls = l at hboth hB
  have hHas := fun q A' c' => ref14_Has W q A' c' l o.id o.seq hB.le
  have hcs : hasIS o.id o.seq = clashO o := by funext x; rfl
  rw [hcs] at hHas
  have hkn := cross_known W
  rcases Int.lt_or_le (idxOf (clashO o) l) 0 with hcl | hcl
  rotate_left
  · rw [decide_eq_true hcl] at hHas
    repeat' (first
      | apply aw_seq | apply aw_region | apply aw_ret | apply aw_skip | apply aw_exit | apply aw_block | apply es_nil
      | (apply es_pure hT; (iterate 4 exact rfl)) | (apply es_skip; (iterate 3 exact rfl)) | (apply es_skip0; (iterate 2 exact rfl))
      | (apply es_i64 hT; (iterate 4 exact rfl); (iterate 2 (first | omega | (dsimp only; omega))))
      | (apply aw_draw [] [] hmix; decide +kernel)
      | (apply es_box; (iterate 5 exact rfl); intro g3)
      | (apply es_callQ (hs := (hMay.mono (by simp))); (iterate 7 exact rfl))
      | (apply es_call (hs := (hboth _)); (iterate 7 exact rfl); rintro _ _ ⟨p, A, c, q, A', c', rfl, rfl⟩)
      | (apply es_callQ (hs := ((hHas q A' c').mono (memPairB mem2 mem3))); (iterate 7 exact rfl))
      | (apply es_load; (iterate 5 exact rfl); first | (apply ld_blk hT; exact rfl; exact rfl; (repeat (first | exact List.mem_cons_self | apply List.mem_cons_of_mem)); exact rfl; exact rfl) | (apply ld_all hT; exact rfl; exact rfl; (repeat (first | exact List.mem_cons_self | apply List.mem_cons_of_mem)); exact rfl))
      | (apply es_box; (iterate 5 exact rfl); intro _) | (apply es_alloc hT; (iterate 5 exact rfl); intro _)
      | (apply aw_condT; (iterate 2 exact rfl)) | (apply aw_condF; (iterate 2 exact rfl))
      | (apply es_case; exact rfl; all_goals intro hb; all_goals (try dsimp only at hb); all_goals (try simp only [hb]); all_goals (first | replace hb := of_decide_eq_true hb | replace hb := of_decide_eq_false hb | replace hb := bne_t hb | replace hb := bne_f hb | replace hb := eq_of_beq hb | replace hb := ne_of_beq_false hb | skip); all_goals (try (exfalso; omega)))
      | (apply aw_cond; exact rfl; all_goals intro hb; all_goals (try dsimp only at hb); all_goals (try simp only [hb]); all_goals (first | replace hb := of_decide_eq_true hb | replace hb := of_decide_eq_false hb | replace hb := bne_t hb | replace hb := bne_f hb | replace hb := eq_of_beq hb | replace hb := ne_of_beq_false hb | skip); all_goals (try (exfalso; omega))))
    all_goals first
      | (exfalso; omega)
      | (apply ret1; exact rfl; exact rfl)
  rw [decide_eq_false (Int.not_le.2 hcl)] at hHas
  have hw1 := fun p A c => cross_Would W p A c l o 2 hB
  have hw2 := fun q A' c' => ref15_Would W q A' c' l o 2 hB (okO_side hok)
  have hdo := fun p A c F => cross_Do W F p A c l o 2 hB
  by_cases hw : wouldV 2 o l < o.left
  · have hk := whole_kill hok hcl hw
    have hk1 : (doV 2 o l).fills.length = 0 := by rw [hk]; rfl
    have hk2 : (doV 2 o l).gones.length = 0 := by rw [hk]; rfl
    have hk3 : (doV 2 o l).left = 0 := by rw [hk]
    have hk4 : (doV 2 o l).err = 17 := by rw [hk]
    have hk5 : (doV 2 o l).bk = l := by rw [hk]
    rw [hk3, hk4, hk5] at hdo
    generalize (doV 2 o l).fills = fl at hdo hk1
    generalize (doV 2 o l).gones = go at hdo hk2
    generalize wouldV 2 o l = wv at hw1 hw2 hw
    repeat' (first
      | (apply es_diffB hT; (iterate 5 exact rfl))
      | apply aw_seq | apply aw_region | apply aw_ret | apply aw_skip | apply aw_exit | apply aw_block | apply es_nil
      | (apply es_pure hT; (iterate 4 exact rfl)) | (apply es_skip; (iterate 3 exact rfl)) | (apply es_skip0; (iterate 2 exact rfl))
      | (apply es_i64 hT; (iterate 4 exact rfl); (iterate 2 (first | omega | (dsimp only; omega))))
      | (apply aw_draw [] [] hmix; decide +kernel)
      | (apply es_box; (iterate 5 exact rfl); intro g3)
      | (apply es_callQ (hs := (hMay.mono (by simp))); (iterate 7 exact rfl))
      | (apply es_call (hs := (hboth _)); (iterate 7 exact rfl); rintro _ _ ⟨p, A, c, q, A', c', rfl, rfl⟩)
      | (apply es_callQ (hs := ((hHas q A' c').mono (memPairB mem2 mem3))); (iterate 7 exact rfl))
      | (apply es_callQ (hs := ((hw2 q A' c').mono (memPairB mem2 mem3))); (iterate 7 exact rfl))
      | (apply es_callQ (hs := ((hw1 p A c).mono (memPairB mem0 mem1))); (iterate 7 exact rfl))
      | (apply es_call (hs := (hdo p A c _)); (iterate 7 exact rfl); rintro _ _ ⟨Af, cf, Ag, cg, A2, c2, rfl, rfl, hfF, hfG⟩)
      | (apply es_callQ (hs := (same15 W _ p q A2 A' c2 c' l hB (by (repeat (first | exact List.mem_cons_self | apply List.mem_cons_of_mem))) (by (repeat (first | exact List.mem_cons_self | apply List.mem_cons_of_mem))) (by (repeat (first | exact List.mem_cons_self | apply List.mem_cons_of_mem))) (by (repeat (first | exact List.mem_cons_self | apply List.mem_cons_of_mem))))); (iterate 7 exact rfl))
      | (apply es_callQ (hs := (hkn.mono (by simp))); (iterate 7 exact rfl))
      | (apply es_load; (iterate 5 exact rfl); first | (apply ld_blk hT; exact rfl; exact rfl; (repeat (first | exact List.mem_cons_self | apply List.mem_cons_of_mem)); exact rfl; exact rfl) | (apply ld_all hT; exact rfl; exact rfl; (repeat (first | exact List.mem_cons_self | apply List.mem_cons_of_mem)); exact rfl))
      | (apply es_box; (iterate 5 exact rfl); intro _) | (apply es_alloc hT; (iterate 5 exact rfl); intro _)
      | (apply aw_condT; (iterate 2 exact rfl)) | (apply aw_condF; (iterate 2 exact rfl))
      | (apply es_case; exact rfl; all_goals intro hb; all_goals (try dsimp only at hb); all_goals (try simp only [hb]); all_goals (first | replace hb := of_decide_eq_true hb | replace hb := of_decide_eq_false hb | replace hb := bne_t hb | replace hb := bne_f hb | replace hb := eq_of_beq hb | replace hb := ne_of_beq_false hb | skip); all_goals (try (exfalso; omega)))
      | (apply aw_cond; exact rfl; all_goals intro hb; all_goals (try dsimp only at hb); all_goals (try simp only [hb]); all_goals (first | replace hb := of_decide_eq_true hb | replace hb := of_decide_eq_false hb | replace hb := bne_t hb | replace hb := bne_f hb | replace hb := eq_of_beq hb | replace hb := ne_of_beq_false hb | skip); all_goals (try (exfalso; omega))))
    all_goals first
      | (exfalso; omega)
      | (apply ret1; exact rfl; exact rfl)
      | skip
  · obtain ⟨d1, d2, d3, d4⟩ := whole_all hB hok hcl hw
    have hln := (doV_lens' (how := 2) (o := o) hB).1
    have hol := okO_left hok
    rw [d1, d2] at hdo
    generalize (doV 2 o l).fills = fl at hdo d3 d4 hln
    generalize (doV 2 o l).gones = go at hdo
    generalize (doV 2 o l).bk = bk at hdo
    generalize wouldV 2 o l = wv at hw1 hw2 hw
    repeat' (first
      | (apply es_diffB hT; (iterate 5 exact rfl))
      | apply aw_seq | apply aw_region | apply aw_ret | apply aw_skip | apply aw_exit | apply aw_block | apply es_nil
      | (apply es_pure hT; (iterate 4 exact rfl)) | (apply es_skip; (iterate 3 exact rfl)) | (apply es_skip0; (iterate 2 exact rfl))
      | (apply es_i64 hT; (iterate 4 exact rfl); (iterate 2 (first | omega | (dsimp only; omega))))
      | (apply aw_draw [] [] hmix; decide +kernel)
      | (apply es_box; (iterate 5 exact rfl); intro g3)
      | (apply es_callQ (hs := (hMay.mono (by simp))); (iterate 7 exact rfl))
      | (apply es_call (hs := (hboth _)); (iterate 7 exact rfl); rintro _ _ ⟨p, A, c, q, A', c', rfl, rfl⟩)
      | (apply es_callQ (hs := ((hHas q A' c').mono (memPairB mem2 mem3))); (iterate 7 exact rfl))
      | (apply es_callQ (hs := ((hw2 q A' c').mono (memPairB mem2 mem3))); (iterate 7 exact rfl))
      | (apply es_callQ (hs := ((hw1 p A c).mono (memPairB mem0 mem1))); (iterate 7 exact rfl))
      | (apply es_call (hs := (hdo p A c _)); (iterate 7 exact rfl); rintro _ _ ⟨Af, cf, Ag, cg, A2, c2, rfl, rfl, hfF, hfG⟩)
      | (apply es_load; (iterate 5 exact rfl); first | (apply ld_blk hT; exact rfl; exact rfl; (repeat (first | exact List.mem_cons_self | apply List.mem_cons_of_mem)); exact rfl; exact rfl) | (apply ld_all hT; exact rfl; exact rfl; (repeat (first | exact List.mem_cons_self | apply List.mem_cons_of_mem)); exact rfl))
      | (apply es_box; (iterate 5 exact rfl); intro _) | (apply es_alloc hT; (iterate 5 exact rfl); intro _)
      | (apply aw_condT; (iterate 2 exact rfl)) | (apply aw_condF; (iterate 2 exact rfl))
      | (apply es_case; exact rfl; all_goals intro hb; all_goals (try dsimp only at hb); all_goals (try simp only [hb]); all_goals (first | replace hb := of_decide_eq_true hb | replace hb := of_decide_eq_false hb | replace hb := bne_t hb | replace hb := bne_f hb | replace hb := eq_of_beq hb | replace hb := ne_of_beq_false hb | skip); all_goals (try (exfalso; omega)))
      | (apply aw_cond; exact rfl; all_goals intro hb; all_goals (try dsimp only at hb); all_goals (try simp only [hb]); all_goals (first | replace hb := of_decide_eq_true hb | replace hb := of_decide_eq_false hb | replace hb := bne_t hb | replace hb := bne_f hb | replace hb := eq_of_beq hb | replace hb := ne_of_beq_false hb | skip); all_goals (try (exfalso; omega))))
    all_goals try (exfalso; omega)
    refine aw_loopD (α := Nat) (E := fun k => [(3, .pointer (some ⟨g3, 0, none⟩)), (8, .slice Af fl.length cf), (10, .int .i64 0), (11, .int .i64 0), (12, .int .i64 (sumQ (fl.take k))), (13, .int .i64 k)])
      (H := fun _ => [.own Af fl.length cf 95 7 (fl.flatMap FillR.enc), .blk g3 29 o.enc]) (μ := fun k => fl.length - k)
      (S := fun k => k ≤ fl.length) 0 (Nat.zero_le _) ⟨rfl, rfl, rfl, rfl, rfl, rfl, trivial⟩ (by (repeat (first | exact dt_end | (apply dt_cons; · (repeat (first | exact sel0 | apply selS))) | apply dt_skip))) ?_
    intro k hk
    have hbk := sumQ_take d4 k
    by_cases hlt : k < fl.length
    · obtain ⟨x, hx⟩ : ∃ x, fl[k]? = some x := ⟨fl[k]'(by omega), List.getElem?_eq_getElem (by omega)⟩
      have hx2 : fl[(k : Int).toNat]? = some x := by simpa using hx
      have hA := hfF.some_ (by omega)
      have hd1 : decide ((k : Int) < (fl.length : Int)) = true := by simp; omega
      have hbk2 := sumQ_take d4 (k + 1)
      have hst : sumQ (fl.take (k + 1)) = sumQ (fl.take k) + x.qty := by rw [List.take_add_one, hx, sumQ_app]; simp [sumQ]
      rw [hst] at hbk2
      generalize sumQ (fl.take k) = sk at hbk hbk2 hst ⊢
      repeat' (first
        | apply aw_seq | apply aw_region | apply aw_ret | apply aw_skip | apply aw_exit | apply aw_block | apply es_nil
        | (apply es_pure hT; (iterate 4 exact rfl)) | (apply es_skip; (iterate 3 exact rfl)) | (apply es_skip0; (iterate 2 exact rfl))
        | (apply es_i64 hT; (iterate 4 exact rfl); (iterate 2 (first | omega | (dsimp only; omega))))
        | (apply aw_draw [] [] hmix; decide +kernel)
        | (apply es_idx hT; (iterate 8 exact rfl); (iterate 2 omega); exact hA)
        | (apply es_load; (iterate 5 exact rfl); exact ld_fld hT rfl rfl (hfF.reads mem0) FillR.enc_len (adr_add _ _ _) hx2 (by decide) rfl)
        | (apply es_load; (iterate 5 exact rfl); first | (apply ld_blk hT; exact rfl; exact rfl; (repeat (first | exact List.mem_cons_self | apply List.mem_cons_of_mem)); exact rfl; exact rfl) | (apply ld_all hT; exact rfl; exact rfl; (repeat (first | exact List.mem_cons_self | apply List.mem_cons_of_mem)); exact rfl))
        | (apply es_box; (iterate 5 exact rfl); intro _) | (apply es_alloc hT; (iterate 5 exact rfl); intro _)
        | (apply aw_condT; (iterate 2 exact rfl)) | (apply aw_condF; (iterate 2 exact rfl))
        | (apply es_case; exact rfl; all_goals intro hb; all_goals (try dsimp only at hb); all_goals (try simp only [hb]); all_goals (first | replace hb := of_decide_eq_true hb | replace hb := of_decide_eq_false hb | replace hb := bne_t hb | replace hb := bne_f hb | replace hb := eq_of_beq hb | replace hb := ne_of_beq_false hb | skip); all_goals (try (exfalso; omega)))
        | (apply aw_cond; exact rfl; all_goals intro hb; all_goals (try dsimp only at hb); all_goals (try simp only [hb]); all_goals (first | replace hb := of_decide_eq_true hb | replace hb := of_decide_eq_false hb | replace hb := bne_t hb | replace hb := bne_f hb | replace hb := eq_of_beq hb | replace hb := ne_of_beq_false hb | skip); all_goals (try (exfalso; omega))))
      all_goals first
        | (exfalso; omega)
        | exact loopq_end (k + 1) (by (try dsimp only); omega) (by (try dsimp only); omega) ⟨rfl, rfl, rfl, rfl, by (try dsimp only); rw [hst]; rfl, rfl, trivial⟩ dt_end
        | skip
    · obtain rfl : k = fl.length := by omega
      have hd1 : decide ((fl.length : Int) < (fl.length : Int)) = false := by simp
      rw [List.take_length, d3]
      repeat' (first
        | (apply es_sameB hT; (iterate 5 exact rfl))
        | apply aw_seq | apply aw_region | apply aw_ret | apply aw_skip | apply aw_exit | apply aw_block | apply es_nil
        | (apply es_pure hT; (iterate 4 exact rfl)) | (apply es_skip; (iterate 3 exact rfl)) | (apply es_skip0; (iterate 2 exact rfl))
        | (apply es_i64 hT; (iterate 4 exact rfl); (iterate 2 (first | omega | (dsimp only; omega))))
        | (apply aw_draw [] [] hmix; decide +kernel)
        | (apply es_callQ (hs := (hkn.mono (by simp))); (iterate 7 exact rfl))
        | (apply es_load; (iterate 5 exact rfl); first | (apply ld_blk hT; exact rfl; exact rfl; (repeat (first | exact List.mem_cons_self | apply List.mem_cons_of_mem)); exact rfl; exact rfl) | (apply ld_all hT; exact rfl; exact rfl; (repeat (first | exact List.mem_cons_self | apply List.mem_cons_of_mem)); exact rfl))
        | (apply es_box; (iterate 5 exact rfl); intro _) | (apply es_alloc hT; (iterate 5 exact rfl); intro _)
        | (apply aw_condT; (iterate 2 exact rfl)) | (apply aw_condF; (iterate 2 exact rfl))
        | (apply es_case; exact rfl; all_goals intro hb; all_goals (try dsimp only at hb); all_goals (try simp only [hb]); all_goals (first | replace hb := of_decide_eq_true hb | replace hb := of_decide_eq_false hb | replace hb := bne_t hb | replace hb := bne_f hb | replace hb := eq_of_beq hb | replace hb := ne_of_beq_false hb | skip); all_goals (try (exfalso; omega)))
        | (apply aw_cond; exact rfl; all_goals intro hb; all_goals (try dsimp only at hb); all_goals (try simp only [hb]); all_goals (first | replace hb := of_decide_eq_true hb | replace hb := of_decide_eq_false hb | replace hb := bne_t hb | replace hb := bne_f hb | replace hb := eq_of_beq hb | replace hb := ne_of_beq_false hb | skip); all_goals (try (exfalso; omega))))
      all_goals first
        | (exfalso; omega)
        | (apply ret1; exact rfl; exact rfl)
        | skip
end Go.Proofs.Ytiefkpfamkkapaa
