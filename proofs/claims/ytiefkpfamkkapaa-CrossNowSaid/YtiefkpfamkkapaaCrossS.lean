/- What the statements CrossSelf and CrossNow answer. Conditions stand in each statement. -/
import Derived.Test.YtiefkpfamkkapaaCrossV
set_option linter.unusedSimpArgs false
set_option linter.unusedVariables false
namespace Go.Proofs.Ytiefkpfamkkapaa
open Go Go.Sl
attribute [local irreducible] AW ES EP Ld RetQ
set_option maxRecDepth 100000

set_option maxHeartbeats 4000000 in
theorem cross_Self (W : World) (A0 : Option Addr) (c0 : Nat) (ls : List Order) (o : Order) (how : Int) (hr0 : Reads W [] A0 ls.length 6 (ls.flatMap Order.enc)) :
    FSpec Try.prog W 20 [.slice A0 ls.length c0, .agg o.enc.toArray, .int .i64 how] [] (fun v _ => v = .bool true) := by
  refine spec_body Try.func20 rfl rfl Try.results20 Try.ntmps20 rfl rfl ?_
  refine aw_reads hr0 (by rfl) (fun hA0 => ?_)
  by_cases h1 : ls.length > 40
  · repeat' (first
      | apply aw_seq | apply aw_region | apply aw_ret | apply aw_skip | apply aw_exit | apply aw_block | apply es_nil
      | (apply es_pure hT; (iterate 4 exact rfl)) | (apply es_skip; (iterate 3 exact rfl)) | (apply es_skip0; (iterate 2 exact rfl))
      | (apply es_i64 hT; (iterate 4 exact rfl); (iterate 2 (first | omega | (dsimp only; omega))))
      | (apply aw_draw [] [] hmix; decide +kernel)
      | (apply es_box; (iterate 5 exact rfl); intro g4)
      | (apply es_load; (iterate 5 exact rfl); first | (apply ld_blk hT; exact rfl; exact rfl; (repeat (first | exact List.mem_cons_self | apply List.mem_cons_of_mem)); exact rfl; exact rfl) | (apply ld_all hT; exact rfl; exact rfl; (repeat (first | exact List.mem_cons_self | apply List.mem_cons_of_mem)); exact rfl))
      | (apply es_box; (iterate 5 exact rfl); intro _) | (apply es_alloc hT; (iterate 5 exact rfl); intro _)
      | (apply aw_condT; (iterate 2 exact rfl)) | (apply aw_condF; (iterate 2 exact rfl))
      | (apply es_case; exact rfl; all_goals intro hb; all_goals (fail_if_success (change true = true at hb)); all_goals (fail_if_success (change false = false at hb)); all_goals (try dsimp only at hb); all_goals (try simp only [hb]); all_goals (first | replace hb := of_decide_eq_true hb | replace hb := of_decide_eq_false hb | replace hb := bne_t hb | replace hb := bne_f hb | replace hb := eq_of_beq hb | replace hb := ne_of_beq_false hb | skip); all_goals (try (exfalso; omega)))
      | (apply aw_cond; exact rfl; all_goals intro hb; all_goals (try dsimp only at hb); all_goals (try simp only [hb]); all_goals (first | replace hb := of_decide_eq_true hb | replace hb := of_decide_eq_false hb | replace hb := bne_t hb | replace hb := bne_f hb | replace hb := eq_of_beq hb | replace hb := ne_of_beq_false hb | skip); all_goals (try (exfalso; omega))))
    all_goals first
      | (exfalso; omega)
      | (apply ret1; exact rfl; exact rfl)
  repeat' (first
    | apply aw_seq | apply aw_region | apply aw_ret | apply aw_skip | apply aw_exit | apply aw_block | apply es_nil
    | (apply es_pure hT; (iterate 4 exact rfl)) | (apply es_skip; (iterate 3 exact rfl)) | (apply es_skip0; (iterate 2 exact rfl))
    | (apply es_i64 hT; (iterate 4 exact rfl); (iterate 2 (first | omega | (dsimp only; omega))))
    | (apply aw_draw [] [] hmix; decide +kernel)
    | (apply es_box; (iterate 5 exact rfl); intro g4)
    | (apply es_load; (iterate 5 exact rfl); first | (apply ld_blk hT; exact rfl; exact rfl; (repeat (first | exact List.mem_cons_self | apply List.mem_cons_of_mem)); exact rfl; exact rfl) | (apply ld_all hT; exact rfl; exact rfl; (repeat (first | exact List.mem_cons_self | apply List.mem_cons_of_mem)); exact rfl))
    | (apply es_box; (iterate 5 exact rfl); intro _) | (apply es_alloc hT; (iterate 5 exact rfl); intro _)
    | (apply aw_condT; (iterate 2 exact rfl)) | (apply aw_condF; (iterate 2 exact rfl))
    | (apply es_case; exact rfl; all_goals intro hb; all_goals (fail_if_success (change true = true at hb)); all_goals (fail_if_success (change false = false at hb)); all_goals (try dsimp only at hb); all_goals (try simp only [hb]); all_goals (first | replace hb := of_decide_eq_true hb | replace hb := of_decide_eq_false hb | replace hb := bne_t hb | replace hb := bne_f hb | replace hb := eq_of_beq hb | replace hb := ne_of_beq_false hb | skip); all_goals (try (exfalso; omega)))
    | (apply aw_cond; exact rfl; all_goals intro hb; all_goals (try dsimp only at hb); all_goals (try simp only [hb]); all_goals (first | replace hb := of_decide_eq_true hb | replace hb := of_decide_eq_false hb | replace hb := bne_t hb | replace hb := bne_f hb | replace hb := eq_of_beq hb | replace hb := ne_of_beq_false hb | skip); all_goals (try (exfalso; omega))))
  all_goals try (exfalso; omega)
  refine aw_loopD (α := Nat) (E := fun k => [(0, .slice A0 ls.length c0), (2, .int .i64 how), (4, .pointer (some ⟨g4, 0, none⟩)), (7, .int .i64 k)]) (H := fun _ => [.blk g4 29 o.enc]) (μ := fun k => ls.length - k)
    (S := fun k => k ≤ ls.length ∧ ∀ (j : Nat) y, j < k → ls[j]? = some y → y.owner = o.owner) 0 ⟨Nat.zero_le _, fun j y hj => absurd hj (Nat.not_lt_zero _)⟩ ⟨rfl, rfl, rfl, rfl, trivial⟩ (by (repeat (first | exact dt_end | (apply dt_cons; · (repeat (first | exact sel0 | apply selS))) | apply dt_skip))) ?_
  rintro k ⟨hk, hown⟩
  by_cases hlt : k < ls.length
  · obtain ⟨x, hx⟩ : ∃ x, ls[k]? = some x := ⟨ls[k]'(by omega), List.getElem?_eq_getElem (by omega)⟩
    have hx2 : ls[(k : Int).toNat]? = some x := by simpa using hx
    have hA := hA0 (by omega)
    have hd1 : decide ((k : Int) < (ls.length : Int)) = true := by simp; omega
    by_cases hxo : x.owner = o.owner
    · repeat' (first
        | apply aw_seq | apply aw_region | apply aw_ret | apply aw_skip | apply aw_exit | apply aw_block | apply es_nil
        | (apply es_pure hT; (iterate 4 exact rfl)) | (apply es_skip; (iterate 3 exact rfl)) | (apply es_skip0; (iterate 2 exact rfl))
        | (apply es_i64 hT; (iterate 4 exact rfl); (iterate 2 (first | omega | (dsimp only; omega))))
        | (apply aw_draw [] [] hmix; decide +kernel)
        | (apply es_idx hT; (iterate 8 exact rfl); (iterate 2 omega); exact hA)
        | (apply es_load; (iterate 5 exact rfl); exact ld_fld hT rfl rfl (hr0.mono (by simp)) Order.enc_len (adr_add _ _ _) hx2 (by decide) rfl)
        | (apply es_load; (iterate 5 exact rfl); first | (apply ld_blk hT; exact rfl; exact rfl; (repeat (first | exact List.mem_cons_self | apply List.mem_cons_of_mem)); exact rfl; exact rfl) | (apply ld_all hT; exact rfl; exact rfl; (repeat (first | exact List.mem_cons_self | apply List.mem_cons_of_mem)); exact rfl))
        | (apply es_box; (iterate 5 exact rfl); intro _) | (apply es_alloc hT; (iterate 5 exact rfl); intro _)
        | (apply aw_condT; (iterate 2 exact rfl)) | (apply aw_condF; (iterate 2 exact rfl))
        | (apply es_case; exact rfl; all_goals intro hb; all_goals (fail_if_success (change true = true at hb)); all_goals (fail_if_success (change false = false at hb)); all_goals (try dsimp only at hb); all_goals (try simp only [hb]); all_goals (first | replace hb := of_decide_eq_true hb | replace hb := of_decide_eq_false hb | replace hb := bne_t hb | replace hb := bne_f hb | replace hb := eq_of_beq hb | replace hb := ne_of_beq_false hb | skip); all_goals (try (exfalso; omega)))
        | (apply aw_cond; exact rfl; all_goals intro hb; all_goals (try dsimp only at hb); all_goals (try simp only [hb]); all_goals (first | replace hb := of_decide_eq_true hb | replace hb := of_decide_eq_false hb | replace hb := bne_t hb | replace hb := bne_f hb | replace hb := eq_of_beq hb | replace hb := ne_of_beq_false hb | skip); all_goals (try (exfalso; omega))))
      all_goals first
        | (exfalso; omega)
        | exact loopq_end (k + 1) (by (try dsimp only); omega) ⟨by (try dsimp only); omega, fun j y hj hy => by
            by_cases hjk : j = k
            · rw [hjk, hx] at hy; cases hy; exact hxo
            · exact hown j y (by (try dsimp only at hj); omega) hy⟩ ⟨rfl, rfl, rfl, rfl, trivial⟩ dt_end
        | skip
    · repeat' (first
        | apply aw_seq | apply aw_region | apply aw_ret | apply aw_skip | apply aw_exit | apply aw_block | apply es_nil
        | (apply es_pure hT; (iterate 4 exact rfl)) | (apply es_skip; (iterate 3 exact rfl)) | (apply es_skip0; (iterate 2 exact rfl))
        | (apply es_i64 hT; (iterate 4 exact rfl); (iterate 2 (first | omega | (dsimp only; omega))))
        | (apply aw_draw [] [] hmix; decide +kernel)
        | (apply es_idx hT; (iterate 8 exact rfl); (iterate 2 omega); exact hA)
        | (apply es_load; (iterate 5 exact rfl); exact ld_fld hT rfl rfl (hr0.mono (by simp)) Order.enc_len (adr_add _ _ _) hx2 (by decide) rfl)
        | (apply es_load; (iterate 5 exact rfl); first | (apply ld_blk hT; exact rfl; exact rfl; (repeat (first | exact List.mem_cons_self | apply List.mem_cons_of_mem)); exact rfl; exact rfl) | (apply ld_all hT; exact rfl; exact rfl; (repeat (first | exact List.mem_cons_self | apply List.mem_cons_of_mem)); exact rfl))
        | (apply es_box; (iterate 5 exact rfl); intro _) | (apply es_alloc hT; (iterate 5 exact rfl); intro _)
        | (apply aw_condT; (iterate 2 exact rfl)) | (apply aw_condF; (iterate 2 exact rfl))
        | (apply es_case; exact rfl; all_goals intro hb; all_goals (fail_if_success (change true = true at hb)); all_goals (fail_if_success (change false = false at hb)); all_goals (try dsimp only at hb); all_goals (try simp only [hb]); all_goals (first | replace hb := of_decide_eq_true hb | replace hb := of_decide_eq_false hb | replace hb := bne_t hb | replace hb := bne_f hb | replace hb := eq_of_beq hb | replace hb := ne_of_beq_false hb | skip); all_goals (try (exfalso; omega)))
        | (apply aw_cond; exact rfl; all_goals intro hb; all_goals (try dsimp only at hb); all_goals (try simp only [hb]); all_goals (first | replace hb := of_decide_eq_true hb | replace hb := of_decide_eq_false hb | replace hb := bne_t hb | replace hb := bne_f hb | replace hb := eq_of_beq hb | replace hb := ne_of_beq_false hb | skip); all_goals (try (exfalso; omega))))
      all_goals first
        | (exfalso; omega)
        | (apply ret1; exact rfl; exact rfl)
        | skip
  · obtain rfl : k = ls.length := by omega
    have hd1 : decide ((ls.length : Int) < (ls.length : Int)) = false := by simp
    have hboth := both15 W [.blk g4 29 o.enc] A0 c0 ls (hr0.mono (by simp)) (by omega)
    have hB := bookOf_B ls
    have hsub := (bookOf_sub ls).1
    have hownl : ∀ x ∈ bookOf ls, x.owner = o.owner := fun x hx => by
      obtain ⟨i, hi⟩ := List.getElem?_of_mem (hsub x hx)
      exact hown i x (List.getElem?_eq_some_iff.1 hi).1 hi
    generalize bookOf ls = l at hboth hB hownl
    have hself := self_law (how := how) hB hownl
    have hln := (doV_lens' (how := how) (o := o) hB).2
    have hBn := doV_B (how := how) (o := o) hB
    have hkn := cross_known W
    have hc1 := fun p A c F => cross_Do W F p A c l o how hB
    have hc2 := fun q A' c' F => ref15_Do W F q A' c' l o how hB
    generalize (doV how o l).fills = fl at hc1 hc2 hself
    generalize (doV how o l).gones = go at hc1 hc2 hln
    generalize (doV how o l).bk = bk at hc1 hc2 hBn
    generalize (doV how o l).left = lf at hc1 hc2 hself
    generalize (doV how o l).err = er at hc1 hc2 hself
    obtain ⟨hs1, hs2⟩ := hself
    repeat' (first
      | (apply es_sameB hT; (iterate 5 exact rfl))
      | apply aw_seq | apply aw_region | apply aw_ret | apply aw_skip | apply aw_exit | apply aw_block | apply es_nil
      | (apply es_pure hT; (iterate 4 exact rfl)) | (apply es_skip; (iterate 3 exact rfl)) | (apply es_skip0; (iterate 2 exact rfl))
      | (apply es_i64 hT; (iterate 4 exact rfl); (iterate 2 (first | omega | (dsimp only; omega))))
      | (apply aw_draw [] [] hmix; decide +kernel)
      | (apply es_call (hs := hboth); (iterate 7 exact rfl); rintro _ _ ⟨p, A, c, q, A', c', rfl, rfl⟩)
      | (apply es_call (hs := (hc1 p A c _)); (iterate 7 exact rfl); rintro _ _ ⟨Af, cf, Ag, cg, A3, c3, rfl, rfl, hfF, hfG⟩)
      | (apply es_call (hs := (FSpec.perm (hc2 q A' c' (.own Af fl.length cf 95 7 (fl.flatMap FillR.enc) :: .own Ag go.length cg 103 3 (go.flatMap GoneR.enc) :: bookTab p A3 c3 bk [.blk g4 29 o.enc])) (by (repeat (first | exact List.Perm.refl _ | (apply permC; · (repeat (first | exact sel0 | apply selS)))))))); (iterate 7 exact rfl); rintro _ _ ⟨Bf, df, Bg, dg, A4, c4, rfl, rfl, hgF, hgG⟩)
      | (apply es_callQ (hs := (gones_two W _ _ _ _ _ go hfG hgG (by (repeat (first | exact List.mem_cons_self | apply List.mem_cons_of_mem))) (by (repeat (first | exact List.mem_cons_self | apply List.mem_cons_of_mem))) (by omega))); (iterate 7 exact rfl))
      | (apply es_callQ (hs := (same15 W _ p q A3 A4 c3 c4 bk hBn (by (repeat (first | exact List.mem_cons_self | apply List.mem_cons_of_mem))) (by (repeat (first | exact List.mem_cons_self | apply List.mem_cons_of_mem))) (by (repeat (first | exact List.mem_cons_self | apply List.mem_cons_of_mem))) (by (repeat (first | exact List.mem_cons_self | apply List.mem_cons_of_mem))))); (iterate 7 exact rfl))
      | (apply es_callQ (hs := (hkn.mono (by simp))); (iterate 7 exact rfl))
      | (apply es_load; (iterate 5 exact rfl); first | (apply ld_blk hT; exact rfl; exact rfl; (repeat (first | exact List.mem_cons_self | apply List.mem_cons_of_mem)); exact rfl; exact rfl) | (apply ld_all hT; exact rfl; exact rfl; (repeat (first | exact List.mem_cons_self | apply List.mem_cons_of_mem)); exact rfl))
      | (apply es_box; (iterate 5 exact rfl); intro _) | (apply es_alloc hT; (iterate 5 exact rfl); intro _)
      | (apply aw_condT; (iterate 2 exact rfl)) | (apply aw_condF; (iterate 2 exact rfl))
      | (apply es_case; exact rfl; all_goals intro hb; all_goals (fail_if_success (change true = true at hb)); all_goals (fail_if_success (change false = false at hb)); all_goals (try dsimp only at hb); all_goals (try simp only [hb]); all_goals (first | replace hb := of_decide_eq_true hb | replace hb := of_decide_eq_false hb | replace hb := bne_t hb | replace hb := bne_f hb | replace hb := eq_of_beq hb | replace hb := ne_of_beq_false hb | skip); all_goals (try (exfalso; omega)))
      | (apply aw_cond; exact rfl; all_goals intro hb; all_goals (try dsimp only at hb); all_goals (try simp only [hb]); all_goals (first | replace hb := of_decide_eq_true hb | replace hb := of_decide_eq_false hb | replace hb := bne_t hb | replace hb := bne_f hb | replace hb := eq_of_beq hb | replace hb := ne_of_beq_false hb | skip); all_goals (try (exfalso; omega))))
    all_goals first
      | (exfalso; omega)
      | (apply ret1; exact rfl; exact rfl)
      | (exfalso; simp_all; done)
      | skip

set_option maxHeartbeats 4000000 in
theorem cross_Now (W : World) (A0 : Option Addr) (c0 : Nat) (ls : List Order) (o : Order) (market : Bool) (hr0 : Reads W [] A0 ls.length 6 (ls.flatMap Order.enc)) :
    FSpec Try.prog W 23 [.slice A0 ls.length c0, .agg o.enc.toArray, .bool market] [] (fun v _ => v = .bool true) := by
  refine spec_body Try.func23 rfl rfl Try.results23 Try.ntmps23 rfl rfl ?_
  by_cases h1 : ls.length > 40
  · repeat' (first
      | apply aw_seq | apply aw_region | apply aw_ret | apply aw_skip | apply aw_exit | apply aw_block | apply es_nil
      | (apply es_pure hT; (iterate 4 exact rfl)) | (apply es_skip; (iterate 3 exact rfl)) | (apply es_skip0; (iterate 2 exact rfl))
      | (apply es_i64 hT; (iterate 4 exact rfl); (iterate 2 (first | omega | (dsimp only; omega))))
      | (apply aw_draw [] [] hmix; decide +kernel)
      | (apply es_box; (iterate 5 exact rfl); intro g4)
      | (apply es_load; (iterate 5 exact rfl); first | (apply ld_blk hT; exact rfl; exact rfl; (repeat (first | exact List.mem_cons_self | apply List.mem_cons_of_mem)); exact rfl; exact rfl) | (apply ld_all hT; exact rfl; exact rfl; (repeat (first | exact List.mem_cons_self | apply List.mem_cons_of_mem)); exact rfl))
      | (apply es_box; (iterate 5 exact rfl); intro _) | (apply es_alloc hT; (iterate 5 exact rfl); intro _)
      | (apply aw_condT; (iterate 2 exact rfl)) | (apply aw_condF; (iterate 2 exact rfl))
      | (apply es_case; exact rfl; all_goals intro hb; all_goals (fail_if_success (change true = true at hb)); all_goals (fail_if_success (change false = false at hb)); all_goals (try dsimp only at hb); all_goals (try simp only [hb]); all_goals (first | replace hb := of_decide_eq_true hb | replace hb := of_decide_eq_false hb | replace hb := bne_t hb | replace hb := bne_f hb | replace hb := eq_of_beq hb | replace hb := ne_of_beq_false hb | skip); all_goals (try (exfalso; omega)))
      | (apply aw_cond; exact rfl; all_goals intro hb; all_goals (try dsimp only at hb); all_goals (try simp only [hb]); all_goals (first | replace hb := of_decide_eq_true hb | replace hb := of_decide_eq_false hb | replace hb := bne_t hb | replace hb := bne_f hb | replace hb := eq_of_beq hb | replace hb := ne_of_beq_false hb | skip); all_goals (try (exfalso; omega))))
    all_goals first
      | (exfalso; omega)
      | (apply ret1; exact rfl; exact rfl)
  have hboth := fun g4 (o' : Order) => both15 W [.blk g4 29 o'.enc] A0 c0 ls (hr0.mono (by simp)) (by omega)
  have hB := bookOf_B ls
  have hlb := (bookOf_sub ls).2
  generalize bookOf ls = l at hboth hB hlb
  have hHas := fun q A' c' => ref14_Has W q A' c' l o.id o.seq hB.le
  have hcs : hasIS o.id o.seq = clashO o := by funext x; rfl
  rw [hcs] at hHas
  have hkn := cross_known W
  have hL := fun p A c => book_Len W p A c l
  rcases Int.lt_or_le (idxOf (clashO o) l) 0 with hcl | hcl
  rotate_left
  · rw [decide_eq_true hcl] at hHas
    cases market
    · have hboth := fun g => hboth g o
      repeat' (first
        | apply aw_seq | apply aw_region | apply aw_ret | apply aw_skip | apply aw_exit | apply aw_block | apply es_nil
        | (apply es_pure hT; (iterate 4 exact rfl)) | (apply es_skip; (iterate 3 exact rfl)) | (apply es_skip0; (iterate 2 exact rfl))
        | (apply es_i64 hT; (iterate 4 exact rfl); (iterate 2 (first | omega | (dsimp only; omega))))
        | (apply aw_draw [] [] hmix; decide +kernel)
        | (apply es_box; (iterate 5 exact rfl); intro g4)
        | (apply es_call (hs := (hboth _)); (iterate 7 exact rfl); rintro _ _ ⟨p, A, c, q, A', c', rfl, rfl⟩)
        | (apply es_callQ (hs := ((hHas q A' c').mono (memPairB mem2 mem3))); (iterate 7 exact rfl))
        | (apply es_load; (iterate 5 exact rfl); first | (apply ld_blk hT; exact rfl; exact rfl; (repeat (first | exact List.mem_cons_self | apply List.mem_cons_of_mem)); exact rfl; exact rfl) | (apply ld_all hT; exact rfl; exact rfl; (repeat (first | exact List.mem_cons_self | apply List.mem_cons_of_mem)); exact rfl))
        | (apply es_box; (iterate 5 exact rfl); intro _) | (apply es_alloc hT; (iterate 5 exact rfl); intro _)
        | (apply aw_condT; (iterate 2 exact rfl)) | (apply aw_condF; (iterate 2 exact rfl))
        | (apply es_case; exact rfl; all_goals intro hb; all_goals (fail_if_success (change true = true at hb)); all_goals (fail_if_success (change false = false at hb)); all_goals (try dsimp only at hb); all_goals (try simp only [hb]); all_goals (first | replace hb := of_decide_eq_true hb | replace hb := of_decide_eq_false hb | replace hb := bne_t hb | replace hb := bne_f hb | replace hb := eq_of_beq hb | replace hb := ne_of_beq_false hb | skip); all_goals (try (exfalso; omega)))
        | (apply aw_cond; exact rfl; all_goals intro hb; all_goals (try dsimp only at hb); all_goals (try simp only [hb]); all_goals (first | replace hb := of_decide_eq_true hb | replace hb := of_decide_eq_false hb | replace hb := bne_t hb | replace hb := bne_f hb | replace hb := eq_of_beq hb | replace hb := ne_of_beq_false hb | skip); all_goals (try (exfalso; omega))))
      all_goals first
        | (exfalso; omega)
        | (apply ret1; exact rfl; exact rfl)
    · have hboth := fun g => hboth g { o with price := 0 }
      repeat' (first
        | apply aw_seq | apply aw_region | apply aw_ret | apply aw_skip | apply aw_exit | apply aw_block | apply es_nil
        | (apply es_pure hT; (iterate 4 exact rfl)) | (apply es_skip; (iterate 3 exact rfl)) | (apply es_skip0; (iterate 2 exact rfl))
        | (apply es_i64 hT; (iterate 4 exact rfl); (iterate 2 (first | omega | (dsimp only; omega))))
        | (apply aw_draw [] [] hmix; decide +kernel)
        | (apply es_box; (iterate 5 exact rfl); intro g4)
        | (apply es_store hT; (iterate 6 exact rfl); (repeat (first | exact sel0 | apply selS)); (iterate 3 exact rfl); exact Nat.le_of_ble_eq_true rfl)
        | (apply es_call (hs := (hboth _)); (iterate 7 exact rfl); rintro _ _ ⟨p, A, c, q, A', c', rfl, rfl⟩)
        | (apply es_callQ (hs := ((hHas q A' c').mono (memPairB mem2 mem3))); (iterate 7 exact rfl))
        | (apply es_load; (iterate 5 exact rfl); first | (apply ld_blk hT; exact rfl; exact rfl; (repeat (first | exact List.mem_cons_self | apply List.mem_cons_of_mem)); exact rfl; exact rfl) | (apply ld_all hT; exact rfl; exact rfl; (repeat (first | exact List.mem_cons_self | apply List.mem_cons_of_mem)); exact rfl))
        | (apply es_box; (iterate 5 exact rfl); intro _) | (apply es_alloc hT; (iterate 5 exact rfl); intro _)
        | (apply aw_condT; (iterate 2 exact rfl)) | (apply aw_condF; (iterate 2 exact rfl))
        | (apply es_case; exact rfl; all_goals intro hb; all_goals (fail_if_success (change true = true at hb)); all_goals (fail_if_success (change false = false at hb)); all_goals (try dsimp only at hb); all_goals (try simp only [hb]); all_goals (first | replace hb := of_decide_eq_true hb | replace hb := of_decide_eq_false hb | replace hb := bne_t hb | replace hb := bne_f hb | replace hb := eq_of_beq hb | replace hb := ne_of_beq_false hb | skip); all_goals (try (exfalso; omega)))
        | (apply aw_cond; exact rfl; all_goals intro hb; all_goals (try dsimp only at hb); all_goals (try simp only [hb]); all_goals (first | replace hb := of_decide_eq_true hb | replace hb := of_decide_eq_false hb | replace hb := bne_t hb | replace hb := bne_f hb | replace hb := eq_of_beq hb | replace hb := ne_of_beq_false hb | skip); all_goals (try (exfalso; omega))))
      all_goals first
        | (exfalso; omega)
        | (apply ret1; exact rfl; exact rfl)
  rw [decide_eq_false (Int.not_le.2 hcl)] at hHas
  cases market
  · have hboth := fun g (_ : Unit) => hboth g o
    have hboth := fun g (_ : Nat) => hboth g ()
    have hc1 := fun p A c F => cross_Do W F p A c l o 1 hB
    have hnow := now_law (how := 1) (o := o) hB hcl (by omega)
    have hln := doV_lens' (how := 1) (o := o) hB
    have hBn := doV_B (how := 1) (o := o) hB
    generalize (doV 1 o l).fills = fl at hc1
    generalize (doV 1 o l).gones = go at hc1
    generalize (doV 1 o l).bk = bk at hc1 hBn hnow
    generalize (doV 1 o l).left = lf at hc1 hnow
    generalize (doV 1 o l).err = er at hc1 hnow
    obtain ⟨hn1, hn2, hn3⟩ := hnow
    have hLn := fun p A c => book_Len W p A c bk
    have hG := fun p A c => book_Get W p A c bk o.id hBn.le
    rw [show getO o.id bk = none from hn1] at hG
    repeat' (first
      | apply aw_seq | apply aw_region | apply aw_ret | apply aw_skip | apply aw_exit | apply aw_block | apply es_nil
      | (apply es_pure hT; (iterate 4 exact rfl)) | (apply es_skip; (iterate 3 exact rfl)) | (apply es_skip0; (iterate 2 exact rfl))
      | (apply es_i64 hT; (iterate 4 exact rfl); (iterate 2 (first | omega | (dsimp only; omega))))
      | (apply aw_draw [] [] hmix; decide +kernel)
      | (apply es_box; (iterate 5 exact rfl); intro g4)
      | (apply es_store hT; (iterate 6 exact rfl); (repeat (first | exact sel0 | apply selS)); (iterate 3 exact rfl); exact Nat.le_of_ble_eq_true rfl)
      | (apply es_call (hs := (hboth _ 0)); (iterate 7 exact rfl); rintro _ _ ⟨p, A, c, q, A', c', rfl, rfl⟩)
      | (apply es_callQ (hs := ((hHas q A' c').mono (memPairB mem2 mem3))); (iterate 7 exact rfl))
      | (apply es_callQ (hs := ((hL p A c).mono (memPairB mem0 mem1))); (iterate 7 exact rfl))
      | (apply es_call (hs := (hc1 p A c _)); (iterate 7 exact rfl); rintro _ _ ⟨Af, cf, Ag, cg, A3, c3, rfl, rfl, hfF, hfG⟩)
      | (apply es_callQ (hs := ((hG p A3 c3).mono (memPairB (by (repeat (first | exact List.mem_cons_self | apply List.mem_cons_of_mem))) (by (repeat (first | exact List.mem_cons_self | apply List.mem_cons_of_mem)))))); (iterate 7 exact rfl))
      | (apply es_callQ (hs := ((hLn p A3 c3).mono (memPairB (by (repeat (first | exact List.mem_cons_self | apply List.mem_cons_of_mem))) (by (repeat (first | exact List.mem_cons_self | apply List.mem_cons_of_mem)))))); (iterate 7 exact rfl))
      | (apply es_alloc hT; (iterate 5 exact rfl); first | ((fail_if_success (have q := g15)); intro g15) | intro _)
      | (apply es_callQ (hs := (hkn.mono (by simp))); (iterate 7 exact rfl))
      | (apply es_load; (iterate 5 exact rfl); first | (apply ld_blk hT; exact rfl; exact rfl; (repeat (first | exact List.mem_cons_self | apply List.mem_cons_of_mem)); exact rfl; exact rfl) | (apply ld_all hT; exact rfl; exact rfl; (repeat (first | exact List.mem_cons_self | apply List.mem_cons_of_mem)); exact rfl))
      | (apply es_box; (iterate 5 exact rfl); intro _) | (apply es_alloc hT; (iterate 5 exact rfl); intro _)
      | (apply aw_condT; (iterate 2 exact rfl)) | (apply aw_condF; (iterate 2 exact rfl))
      | (apply es_case; exact rfl; all_goals intro hb; all_goals (fail_if_success (change true = true at hb)); all_goals (fail_if_success (change false = false at hb)); all_goals (try dsimp only at hb); all_goals (try simp only [hb]); all_goals (first | replace hb := of_decide_eq_true hb | replace hb := of_decide_eq_false hb | replace hb := bne_t hb | replace hb := bne_f hb | replace hb := eq_of_beq hb | replace hb := ne_of_beq_false hb | skip); all_goals (try (exfalso; omega)))
      | (apply aw_cond; exact rfl; all_goals intro hb; all_goals (try dsimp only at hb); all_goals (try simp only [hb]); all_goals (first | replace hb := of_decide_eq_true hb | replace hb := of_decide_eq_false hb | replace hb := bne_t hb | replace hb := bne_f hb | replace hb := eq_of_beq hb | replace hb := ne_of_beq_false hb | skip); all_goals (try (exfalso; omega))))
    all_goals first
      | (exfalso; omega)
      | (apply ret1; exact rfl; exact rfl)
      | (exfalso; simp_all; done)
      | skip
  · have hboth := fun g (_ : Nat) => hboth g { o with price := 0 }
    have hc1 := fun p A c F => cross_Do W F p A c l { o with price := 0 } 4 hB
    have hnow := now_law (how := 4) (o := { o with price := 0 }) hB hcl (by omega)
    have hln := doV_lens' (how := 4) (o := { o with price := 0 }) hB
    have hBn := doV_B (how := 4) (o := { o with price := 0 }) hB
    generalize (doV 4 { o with price := 0 } l).fills = fl at hc1
    generalize (doV 4 { o with price := 0 } l).gones = go at hc1
    generalize (doV 4 { o with price := 0 } l).bk = bk at hc1 hBn hnow
    generalize (doV 4 { o with price := 0 } l).left = lf at hc1 hnow
    generalize (doV 4 { o with price := 0 } l).err = er at hc1 hnow
    obtain ⟨hn1, hn2, hn3⟩ := hnow
    have hLn := fun p A c => book_Len W p A c bk
    have hG := fun p A c => book_Get W p A c bk o.id hBn.le
    rw [show getO o.id bk = none from hn1] at hG
    repeat' (first
      | apply aw_seq | apply aw_region | apply aw_ret | apply aw_skip | apply aw_exit | apply aw_block | apply es_nil
      | (apply es_pure hT; (iterate 4 exact rfl)) | (apply es_skip; (iterate 3 exact rfl)) | (apply es_skip0; (iterate 2 exact rfl))
      | (apply es_i64 hT; (iterate 4 exact rfl); (iterate 2 (first | omega | (dsimp only; omega))))
      | (apply aw_draw [] [] hmix; decide +kernel)
      | (apply es_box; (iterate 5 exact rfl); intro g4)
      | (apply es_store hT; (iterate 6 exact rfl); (repeat (first | exact sel0 | apply selS)); (iterate 3 exact rfl); exact Nat.le_of_ble_eq_true rfl)
      | (apply es_call (hs := (hboth _ 0)); (iterate 7 exact rfl); rintro _ _ ⟨p, A, c, q, A', c', rfl, rfl⟩)
      | (apply es_callQ (hs := ((hHas q A' c').mono (memPairB mem2 mem3))); (iterate 7 exact rfl))
      | (apply es_callQ (hs := ((hL p A c).mono (memPairB mem0 mem1))); (iterate 7 exact rfl))
      | (apply es_call (hs := (hc1 p A c _)); (iterate 7 exact rfl); rintro _ _ ⟨Af, cf, Ag, cg, A3, c3, rfl, rfl, hfF, hfG⟩)
      | (apply es_callQ (hs := ((hG p A3 c3).mono (memPairB (by (repeat (first | exact List.mem_cons_self | apply List.mem_cons_of_mem))) (by (repeat (first | exact List.mem_cons_self | apply List.mem_cons_of_mem)))))); (iterate 7 exact rfl))
      | (apply es_callQ (hs := ((hLn p A3 c3).mono (memPairB (by (repeat (first | exact List.mem_cons_self | apply List.mem_cons_of_mem))) (by (repeat (first | exact List.mem_cons_self | apply List.mem_cons_of_mem)))))); (iterate 7 exact rfl))
      | (apply es_alloc hT; (iterate 5 exact rfl); first | ((fail_if_success (have q := g15)); intro g15) | intro _)
      | (apply es_callQ (hs := (hkn.mono (by simp))); (iterate 7 exact rfl))
      | (apply es_load; (iterate 5 exact rfl); first | (apply ld_blk hT; exact rfl; exact rfl; (repeat (first | exact List.mem_cons_self | apply List.mem_cons_of_mem)); exact rfl; exact rfl) | (apply ld_all hT; exact rfl; exact rfl; (repeat (first | exact List.mem_cons_self | apply List.mem_cons_of_mem)); exact rfl))
      | (apply es_box; (iterate 5 exact rfl); intro _) | (apply es_alloc hT; (iterate 5 exact rfl); intro _)
      | (apply aw_condT; (iterate 2 exact rfl)) | (apply aw_condF; (iterate 2 exact rfl))
      | (apply es_case; exact rfl; all_goals intro hb; all_goals (fail_if_success (change true = true at hb)); all_goals (fail_if_success (change false = false at hb)); all_goals (try dsimp only at hb); all_goals (try simp only [hb]); all_goals (first | replace hb := of_decide_eq_true hb | replace hb := of_decide_eq_false hb | replace hb := bne_t hb | replace hb := bne_f hb | replace hb := eq_of_beq hb | replace hb := ne_of_beq_false hb | skip); all_goals (try (exfalso; omega)))
      | (apply aw_cond; exact rfl; all_goals intro hb; all_goals (try dsimp only at hb); all_goals (try simp only [hb]); all_goals (first | replace hb := of_decide_eq_true hb | replace hb := of_decide_eq_false hb | replace hb := bne_t hb | replace hb := bne_f hb | replace hb := eq_of_beq hb | replace hb := ne_of_beq_false hb | skip); all_goals (try (exfalso; omega))))
    all_goals first
      | (exfalso; omega)
      | (apply ret1; exact rfl; exact rfl)
      | (exfalso; simp_all; done)
      | skip
end Go.Proofs.Ytiefkpfamkkapaa
