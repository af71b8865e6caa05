/- What the statement QuoteOne answers. Conditions stand in each statement. -/
import Derived.Test.YtmoglacdddinjaaQuoteN
import Derived.Test.YtmoglacdddinjaaRow
set_option linter.unusedSimpArgs false
set_option linter.unusedVariables false
namespace Go.Proofs.Ytmoglacdddinjaa
open Go Go.Sl
attribute [local irreducible] AW ES EP Ld RetQ
set_option maxRecDepth 100000

set_option maxHeartbeats 1000000 in
theorem quo_One (W : World) (A0 : Option Addr) (c0 : Nat) (qs : List Quote) (hr0 : Reads W [] A0 qs.length 6 (qs.flatMap Quote.enc)) :
    FSpec Try.prog W 13 [.slice A0 qs.length c0] [] (fun v _ => v = .bool true) := by
  refine spec_body Try.func13 rfl rfl Try.results13 Try.ntmps13 rfl rfl ?_
  refine aw_reads hr0 (by rfl) (fun hA0 => ?_)
  by_cases h1 : qs.length > 60
  · repeat' (first
      | apply aw_seq | apply aw_region | apply aw_ret | apply aw_skip | apply aw_exit | apply aw_block | apply es_nil
      | (apply es_pure hT; (iterate 4 exact rfl)) | (apply es_skip; (iterate 3 exact rfl)) | (apply es_skip0; (iterate 2 exact rfl))
      | (apply es_i64 hT; (iterate 4 exact rfl); (iterate 2 omega))
      | (apply aw_draw [] [] hmix; decide +kernel)
      | (apply es_load; (iterate 5 exact rfl); first | exact ld_blk hT rfl rfl mem0 rfl rfl | exact ld_all hT rfl rfl mem0 rfl)
      | (apply es_load; (iterate 5 exact rfl); first | exact ld_blk hT rfl rfl mem1 rfl rfl | exact ld_all hT rfl rfl mem1 rfl)
      | (apply es_load; (iterate 5 exact rfl); first | exact ld_blk hT rfl rfl mem2 rfl rfl | exact ld_all hT rfl rfl mem2 rfl)
      | (apply es_box; (iterate 5 exact rfl); intro _) | (apply es_alloc hT; (iterate 5 exact rfl); intro _)
      | (apply aw_condT; (iterate 2 exact rfl)) | (apply aw_condF; (iterate 2 exact rfl))
      | (apply es_case; exact rfl; all_goals intro hb; all_goals (try simp only [hb]); all_goals (first | replace hb := of_decide_eq_true hb | replace hb := of_decide_eq_false hb | replace hb := bne_t hb | replace hb := bne_f hb | skip); all_goals (try (exfalso; omega)))
      | (apply aw_cond; exact rfl; all_goals intro hb; all_goals (try simp only [hb]); all_goals (first | replace hb := of_decide_eq_true hb | replace hb := of_decide_eq_false hb | replace hb := bne_t hb | replace hb := bne_f hb | skip); all_goals (try (exfalso; omega))))
    apply ret1; exact rfl; exact rfl
  repeat' (first
    | apply aw_seq | apply aw_region | apply aw_ret | apply aw_skip | apply aw_exit | apply aw_block | apply es_nil
    | (apply es_pure hT; (iterate 4 exact rfl)) | (apply es_skip; (iterate 3 exact rfl)) | (apply es_skip0; (iterate 2 exact rfl))
    | (apply es_i64 hT; (iterate 4 exact rfl); (iterate 2 omega))
    | (apply aw_draw [] [] hmix; decide +kernel)
    | (apply es_call (hs := (quo_New W _)); (iterate 7 exact rfl); rintro _ _ ⟨p, A, c, rfl, rfl⟩)
    | (apply es_load; (iterate 5 exact rfl); first | exact ld_blk hT rfl rfl mem0 rfl rfl | exact ld_all hT rfl rfl mem0 rfl)
    | (apply es_load; (iterate 5 exact rfl); first | exact ld_blk hT rfl rfl mem1 rfl rfl | exact ld_all hT rfl rfl mem1 rfl)
    | (apply es_load; (iterate 5 exact rfl); first | exact ld_blk hT rfl rfl mem2 rfl rfl | exact ld_all hT rfl rfl mem2 rfl)
    | (apply es_box; (iterate 5 exact rfl); intro _) | (apply es_alloc hT; (iterate 5 exact rfl); intro _)
    | (apply aw_condT; (iterate 2 exact rfl)) | (apply aw_condF; (iterate 2 exact rfl))
    | (apply es_case; exact rfl; all_goals intro hb; all_goals (try simp only [hb]); all_goals (first | replace hb := of_decide_eq_true hb | replace hb := of_decide_eq_false hb | replace hb := bne_t hb | replace hb := bne_f hb | skip); all_goals (try (exfalso; omega)))
    | (apply aw_cond; exact rfl; all_goals intro hb; all_goals (try simp only [hb]); all_goals (first | replace hb := of_decide_eq_true hb | replace hb := of_decide_eq_false hb | replace hb := bne_t hb | replace hb := bne_f hb | skip); all_goals (try (exfalso; omega))))
  refine aw_loop (α := Nat × List Quote × Option Addr × Nat) (E := fun x => [(0, .slice A0 qs.length c0), (3, .pointer (some ⟨p, 0, none⟩)), (4, .int .i64 x.1)]) (H := fun x => quoTab p x.2.2.1 x.2.2.2 x.2.1 []) (μ := fun x => qs.length - x.1)
    (S := fun x => x.1 ≤ qs.length ∧ TabQ x.2.1 ∧ x.2.1.length ≤ x.1) (0, [], A, c) (J := []) ⟨Nat.zero_le _, ⟨List.Pairwise.nil, List.Pairwise.nil⟩, Nat.le_refl _⟩ ⟨rfl, rfl, rfl, trivial⟩ (List.Perm.refl _) ?_
  rintro ⟨k, l, A1, c1⟩ ⟨hk, htab, hlen⟩
  dsimp only at hk htab hlen ⊢
  by_cases hlt : k < qs.length
  · have hA := hA0 (by omega)
    obtain ⟨x, hx⟩ : ∃ x, qs[k]? = some x := ⟨qs[k]'(by omega), List.getElem?_eq_getElem (by omega)⟩
    have hx2 : qs[(k : Int).toNat]? = some x := by simpa using hx
    have hd : decide ((k : Int) < (qs.length : Int)) = true := by simp; omega
    have hput := quo_Put W [] p A1 c1 l x (by omega) htab.up
    have hpl := putQ_len (q := x) (l := l)
    repeat' (first
      | apply aw_seq | apply aw_region | apply aw_ret | apply aw_skip | apply aw_exit | apply aw_block | apply es_nil
      | (apply es_pure hT; (iterate 4 exact rfl)) | (apply es_skip; (iterate 3 exact rfl)) | (apply es_skip0; (iterate 2 exact rfl))
      | (apply es_i64 hT; (iterate 4 exact rfl); (iterate 2 omega))
      | (apply aw_draw [] [] hmix; decide +kernel)
      | (apply es_idx hT; (iterate 8 exact rfl); (iterate 2 omega); exact hA)
      | (apply es_load; (iterate 5 exact rfl); exact ld_elem hT rfl rfl (hr0.mono (by simp)) Quote.enc_len rfl hx2 rfl)
      | (apply es_call (hs := hput); (iterate 7 exact rfl); rintro _ _ ⟨rfl, A2, c2, rfl⟩)
      | (apply es_load; (iterate 5 exact rfl); first | exact ld_blk hT rfl rfl mem0 rfl rfl | exact ld_all hT rfl rfl mem0 rfl)
      | (apply es_load; (iterate 5 exact rfl); first | exact ld_blk hT rfl rfl mem1 rfl rfl | exact ld_all hT rfl rfl mem1 rfl)
      | (apply es_load; (iterate 5 exact rfl); first | exact ld_blk hT rfl rfl mem2 rfl rfl | exact ld_all hT rfl rfl mem2 rfl)
      | (apply es_box; (iterate 5 exact rfl); intro _) | (apply es_alloc hT; (iterate 5 exact rfl); intro _)
      | (apply aw_condT; (iterate 2 exact rfl)) | (apply aw_condF; (iterate 2 exact rfl))
      | (apply es_case; exact rfl; all_goals intro hb; all_goals (try simp only [hb]); all_goals (first | replace hb := of_decide_eq_true hb | replace hb := of_decide_eq_false hb | replace hb := bne_t hb | replace hb := bne_f hb | skip); all_goals (try (exfalso; omega)))
      | (apply aw_cond; exact rfl; all_goals intro hb; all_goals (try simp only [hb]); all_goals (first | replace hb := of_decide_eq_true hb | replace hb := of_decide_eq_false hb | replace hb := bne_t hb | replace hb := bne_f hb | skip); all_goals (try (exfalso; omega))))
    exact loopq_end (k + 1, putQ x l, A2, c2) (by (try dsimp only); omega) ⟨by (try dsimp only); omega, putQ_tab htab, by (try dsimp only); omega⟩ ⟨rfl, rfl, rfl, trivial⟩ dt_end
  · obtain rfl : k = qs.length := by omega
    have hd : decide ((qs.length : Int) < (qs.length : Int)) = false := by simp
    repeat' (first
      | apply aw_seq | apply aw_region | apply aw_ret | apply aw_skip | apply aw_exit | apply aw_block | apply es_nil
      | (apply es_pure hT; (iterate 4 exact rfl)) | (apply es_skip; (iterate 3 exact rfl)) | (apply es_skip0; (iterate 2 exact rfl))
      | (apply es_i64 hT; (iterate 4 exact rfl); (iterate 2 omega))
      | (apply aw_draw [] [] hmix; decide +kernel)
      | (apply es_load; (iterate 5 exact rfl); first | exact ld_blk hT rfl rfl mem0 rfl rfl | exact ld_all hT rfl rfl mem0 rfl)
      | (apply es_load; (iterate 5 exact rfl); first | exact ld_blk hT rfl rfl mem1 rfl rfl | exact ld_all hT rfl rfl mem1 rfl)
      | (apply es_load; (iterate 5 exact rfl); first | exact ld_blk hT rfl rfl mem2 rfl rfl | exact ld_all hT rfl rfl mem2 rfl)
      | (apply es_box; (iterate 5 exact rfl); intro _) | (apply es_alloc hT; (iterate 5 exact rfl); intro _)
      | (apply aw_condT; (iterate 2 exact rfl)) | (apply aw_condF; (iterate 2 exact rfl))
      | (apply es_case; exact rfl; all_goals intro hb; all_goals (try simp only [hb]); all_goals (first | replace hb := of_decide_eq_true hb | replace hb := of_decide_eq_false hb | replace hb := bne_t hb | replace hb := bne_f hb | skip); all_goals (try (exfalso; omega)))
      | (apply aw_cond; exact rfl; all_goals intro hb; all_goals (try simp only [hb]); all_goals (first | replace hb := of_decide_eq_true hb | replace hb := of_decide_eq_false hb | replace hb := bne_t hb | replace hb := bne_f hb | skip); all_goals (try (exfalso; omega))))
    refine aw_loop (α := Nat) (E := fun i => [(0, .slice A0 qs.length c0), (3, .pointer (some ⟨p, 0, none⟩)), (5, .int .i64 i)]) (H := fun _ => quoTab p A1 c1 l []) (μ := fun i => qs.length - i)
      (S := fun i => i ≤ qs.length) 0 (J := []) (Nat.zero_le _) ⟨rfl, rfl, rfl, trivial⟩ (List.Perm.refl _) ?_
    intro i hi
    by_cases hil : i < qs.length
    · have hA := hA0 (by omega)
      obtain ⟨x, hx⟩ : ∃ x, qs[i]? = some x := ⟨qs[i]'(by omega), List.getElem?_eq_getElem (by omega)⟩
      have hx2 : qs[(i : Int).toNat]? = some x := by simpa using hx
      have hd1 : decide ((i : Int) < (qs.length : Int)) = true := by simp; omega
      have hof := quo_Of W [] p A1 c1 l x.dealer (by omega)
      have hml := List.length_filter_le (isOf x.dealer) l
      have hmup : (l.filter (isOf x.dealer)).Pairwise fun a b => a.id < b.id ∧ a.ask ≠ b.ask := by
        have h2 := (htab.up.and htab.one).sublist (List.filter_sublist (p := isOf x.dealer))
        refine List.Pairwise.imp_of_mem (fun {a b} ha hb hab => ?_) h2
        have ha := (List.mem_filter.1 ha).2
        have hb := (List.mem_filter.1 hb).2
        simp only [isOf, Bool.and_eq_true, beq_iff_eq] at ha hb
        exact ⟨hab.1, fun e => hab.2 ha.2 hb.2 ⟨e, ha.1.trans hb.1.symm⟩⟩
      generalize l.filter (isOf x.dealer) = m at hof hml hmup
      repeat' (first
        | apply aw_seq | apply aw_region | apply aw_ret | apply aw_skip | apply aw_exit | apply aw_block | apply es_nil
        | (apply es_pure hT; (iterate 4 exact rfl)) | (apply es_skip; (iterate 3 exact rfl)) | (apply es_skip0; (iterate 2 exact rfl))
        | (apply es_i64 hT; (iterate 4 exact rfl); (iterate 2 omega))
        | (apply aw_draw [] [] hmix; decide +kernel)
        | (apply es_idx hT; (iterate 8 exact rfl); (iterate 2 omega); exact hA)
        | (apply es_load; (iterate 5 exact rfl); exact ld_fld hT rfl rfl (hr0.mono (by simp)) Quote.enc_len (adr_add _ _ _) hx2 (by decide) rfl)
        | (apply es_call (hs := hof); (iterate 7 exact rfl); rintro _ _ ⟨AO, cO, rfl, rfl, hf⟩)
        | (apply es_load; (iterate 5 exact rfl); first | exact ld_blk hT rfl rfl mem0 rfl rfl | exact ld_all hT rfl rfl mem0 rfl)
        | (apply es_load; (iterate 5 exact rfl); first | exact ld_blk hT rfl rfl mem1 rfl rfl | exact ld_all hT rfl rfl mem1 rfl)
        | (apply es_load; (iterate 5 exact rfl); first | exact ld_blk hT rfl rfl mem2 rfl rfl | exact ld_all hT rfl rfl mem2 rfl)
        | (apply es_box; (iterate 5 exact rfl); intro _) | (apply es_alloc hT; (iterate 5 exact rfl); intro _)
        | (apply aw_condT; (iterate 2 exact rfl)) | (apply aw_condF; (iterate 2 exact rfl))
        | (apply es_case; exact rfl; all_goals intro hb; all_goals (try simp only [hb]); all_goals (first | replace hb := of_decide_eq_true hb | replace hb := of_decide_eq_false hb | replace hb := bne_t hb | replace hb := bne_f hb | skip); all_goals (try (exfalso; omega)))
        | (apply aw_cond; exact rfl; all_goals intro hb; all_goals (try simp only [hb]); all_goals (first | replace hb := of_decide_eq_true hb | replace hb := of_decide_eq_false hb | replace hb := bne_t hb | replace hb := bne_f hb | skip); all_goals (try (exfalso; omega))))
      refine aw_loop (α := Nat) (E := fun k => [(0, .slice A0 qs.length c0), (3, .pointer (some ⟨p, 0, none⟩)), (5, .int .i64 i), (6, .slice AO m.length cO), (7, .int .i64 k)]) (H := fun _ => .own AO m.length cO 25 6 (m.flatMap Quote.enc) :: quoTab p A1 c1 l []) (μ := fun k => m.length + 1 - k)
        (S := fun k => 1 ≤ k ∧ k ≤ m.length + 1) 1 (J := []) ⟨Nat.le_refl _, by omega⟩ ⟨rfl, rfl, rfl, rfl, rfl, trivial⟩ (List.Perm.refl _) ?_
      rintro k ⟨hk1, hk2⟩
      by_cases hkl : k < m.length
      · have hAO := hf.some_ (by omega)
        obtain ⟨y, hy⟩ : ∃ y, m[k]? = some y := ⟨m[k]'(by omega), List.getElem?_eq_getElem (by omega)⟩
        obtain ⟨z, hz⟩ : ∃ z, m[k - 1]? = some z := ⟨m[k - 1]'(by omega), List.getElem?_eq_getElem (by omega)⟩
        have hy2 : m[(k : Int).toNat]? = some y := by simpa using hy
        have hz2 : m[((k : Int) - 1).toNat]? = some z := by rw [← hz]; congr 1; omega
        have hd2 : decide ((k : Int) < (m.length : Int)) = true := by simp; omega
        have hzy : z.id < y.id := by
          obtain ⟨g1, e1⟩ := List.getElem?_eq_some_iff.1 hz
          obtain ⟨g2, e2⟩ := List.getElem?_eq_some_iff.1 hy
          have := (List.pairwise_iff_getElem.1 hmup (k - 1) k g1 g2 (by omega)).1
          rwa [e1, e2] at this
        have hd3 : decide (y.id ≤ z.id) = false := by simp; omega
        repeat' (first
          | apply aw_seq | apply aw_region | apply aw_ret | apply aw_skip | apply aw_exit | apply aw_block | apply es_nil
          | (apply es_pure hT; (iterate 4 exact rfl)) | (apply es_skip; (iterate 3 exact rfl)) | (apply es_skip0; (iterate 2 exact rfl))
          | (apply es_i64 hT; (iterate 4 exact rfl); (iterate 2 omega))
          | (apply aw_draw [] [] hmix; decide +kernel)
          | (apply es_idx hT; (iterate 8 exact rfl); (iterate 2 omega); exact hAO)
          | (apply es_load; (iterate 5 exact rfl); first | exact ld_fld hT rfl rfl (hf.reads mem0) Quote.enc_len (adr_add _ _ _) hy2 (by decide) rfl | exact ld_fld hT rfl rfl (hf.reads mem0) Quote.enc_len (adr_add _ _ _) hz2 (by decide) rfl)
          | (apply es_load; (iterate 5 exact rfl); first | exact ld_blk hT rfl rfl mem0 rfl rfl | exact ld_all hT rfl rfl mem0 rfl)
          | (apply es_load; (iterate 5 exact rfl); first | exact ld_blk hT rfl rfl mem1 rfl rfl | exact ld_all hT rfl rfl mem1 rfl)
          | (apply es_load; (iterate 5 exact rfl); first | exact ld_blk hT rfl rfl mem2 rfl rfl | exact ld_all hT rfl rfl mem2 rfl)
          | (apply es_box; (iterate 5 exact rfl); intro _) | (apply es_alloc hT; (iterate 5 exact rfl); intro _)
          | (apply aw_condT; (iterate 2 exact rfl)) | (apply aw_condF; (iterate 2 exact rfl))
          | (apply es_case; exact rfl; all_goals intro hb; all_goals (try simp only [hb]); all_goals (first | replace hb := of_decide_eq_true hb | replace hb := of_decide_eq_false hb | replace hb := bne_t hb | replace hb := bne_f hb | skip); all_goals (try (exfalso; omega)))
          | (apply aw_cond; exact rfl; all_goals intro hb; all_goals (try simp only [hb]); all_goals (first | replace hb := of_decide_eq_true hb | replace hb := of_decide_eq_false hb | replace hb := bne_t hb | replace hb := bne_f hb | skip); all_goals (try (exfalso; omega))))
        refine aw_loop (α := Nat) (E := fun j => [(0, .slice A0 qs.length c0), (3, .pointer (some ⟨p, 0, none⟩)), (5, .int .i64 i), (6, .slice AO m.length cO), (7, .int .i64 k), (8, .int .i64 j)]) (H := fun _ => .own AO m.length cO 25 6 (m.flatMap Quote.enc) :: quoTab p A1 c1 l []) (μ := fun j => k - j)
          (S := fun j => j ≤ k) 0 (J := []) (Nat.zero_le _) ⟨rfl, rfl, rfl, rfl, rfl, rfl, trivial⟩ (List.Perm.refl _) ?_
        intro j hj
        by_cases hjk : j < k
        · obtain ⟨u, hu⟩ : ∃ u, m[j]? = some u := ⟨m[j]'(by omega), List.getElem?_eq_getElem (by omega)⟩
          have hu2 : m[(j : Int).toNat]? = some u := by simpa using hu
          have huy : (u.ask == y.ask) = false := by
            obtain ⟨g1, e1⟩ := List.getElem?_eq_some_iff.1 hu
            obtain ⟨g2, e2⟩ := List.getElem?_eq_some_iff.1 hy
            have := (List.pairwise_iff_getElem.1 hmup j k g1 g2 (by omega)).2
            rw [e1, e2] at this
            simpa using this
          have hd4 : decide ((j : Int) < (k : Int)) = true := by simp; omega
          repeat' (first
            | apply aw_seq | apply aw_region | apply aw_ret | apply aw_skip | apply aw_exit | apply aw_block | apply es_nil
            | (apply es_pure hT; (iterate 4 exact rfl)) | (apply es_skip; (iterate 3 exact rfl)) | (apply es_skip0; (iterate 2 exact rfl))
            | (apply es_i64 hT; (iterate 4 exact rfl); (iterate 2 omega))
            | (apply aw_draw [] [] hmix; decide +kernel)
            | (apply es_idx hT; (iterate 8 exact rfl); (iterate 2 omega); exact hAO)
            | (apply es_load; (iterate 5 exact rfl); first | exact ld_fld hT rfl rfl (hf.reads mem0) Quote.enc_len (adr_add _ _ _) hu2 (by decide) rfl | exact ld_fld hT rfl rfl (hf.reads mem0) Quote.enc_len (adr_add _ _ _) hy2 (by decide) rfl)
            | (apply es_load; (iterate 5 exact rfl); first | exact ld_blk hT rfl rfl mem0 rfl rfl | exact ld_all hT rfl rfl mem0 rfl)
            | (apply es_load; (iterate 5 exact rfl); first | exact ld_blk hT rfl rfl mem1 rfl rfl | exact ld_all hT rfl rfl mem1 rfl)
            | (apply es_load; (iterate 5 exact rfl); first | exact ld_blk hT rfl rfl mem2 rfl rfl | exact ld_all hT rfl rfl mem2 rfl)
            | (apply es_box; (iterate 5 exact rfl); intro _) | (apply es_alloc hT; (iterate 5 exact rfl); intro _)
            | (apply aw_condT; (iterate 2 exact rfl)) | (apply aw_condF; (iterate 2 exact rfl))
            | (apply es_case; exact rfl; all_goals intro hb; all_goals (try simp only [hb]); all_goals (first | replace hb := of_decide_eq_true hb | replace hb := of_decide_eq_false hb | replace hb := bne_t hb | replace hb := bne_f hb | skip); all_goals (try (exfalso; omega)))
            | (apply aw_cond; exact rfl; all_goals intro hb; all_goals (try simp only [hb]); all_goals (first | replace hb := of_decide_eq_true hb | replace hb := of_decide_eq_false hb | replace hb := bne_t hb | replace hb := bne_f hb | skip); all_goals (try (exfalso; omega))))
          all_goals first
            | exact loopq_end (j + 1) (by (try dsimp only); omega) (by (try dsimp only); omega) ⟨rfl, rfl, rfl, rfl, rfl, rfl, trivial⟩ dt_end
            | (exfalso; simp_all)
        · obtain rfl : j = k := by omega
          have hd4 : decide ((j : Int) < (j : Int)) = false := by simp
          repeat' (first
            | apply aw_seq | apply aw_region | apply aw_ret | apply aw_skip | apply aw_exit | apply aw_block | apply es_nil
            | (apply es_pure hT; (iterate 4 exact rfl)) | (apply es_skip; (iterate 3 exact rfl)) | (apply es_skip0; (iterate 2 exact rfl))
            | (apply es_i64 hT; (iterate 4 exact rfl); (iterate 2 omega))
            | (apply aw_draw [] [] hmix; decide +kernel)
            | (apply es_load; (iterate 5 exact rfl); first | exact ld_blk hT rfl rfl mem0 rfl rfl | exact ld_all hT rfl rfl mem0 rfl)
            | (apply es_load; (iterate 5 exact rfl); first | exact ld_blk hT rfl rfl mem1 rfl rfl | exact ld_all hT rfl rfl mem1 rfl)
            | (apply es_load; (iterate 5 exact rfl); first | exact ld_blk hT rfl rfl mem2 rfl rfl | exact ld_all hT rfl rfl mem2 rfl)
            | (apply es_box; (iterate 5 exact rfl); intro _) | (apply es_alloc hT; (iterate 5 exact rfl); intro _)
            | (apply aw_condT; (iterate 2 exact rfl)) | (apply aw_condF; (iterate 2 exact rfl))
            | (apply es_case; exact rfl; all_goals intro hb; all_goals (try simp only [hb]); all_goals (first | replace hb := of_decide_eq_true hb | replace hb := of_decide_eq_false hb | replace hb := bne_t hb | replace hb := bne_f hb | skip); all_goals (try (exfalso; omega)))
            | (apply aw_cond; exact rfl; all_goals intro hb; all_goals (try simp only [hb]); all_goals (first | replace hb := of_decide_eq_true hb | replace hb := of_decide_eq_false hb | replace hb := bne_t hb | replace hb := bne_f hb | skip); all_goals (try (exfalso; omega))))
          exact loopq_end (j + 1) (by (try dsimp only); omega) (by (try dsimp only); omega) ⟨rfl, rfl, rfl, rfl, rfl, trivial⟩ dt_end
      · have hd2 : decide ((k : Int) < (m.length : Int)) = false := by simp; omega
        repeat' (first
          | apply aw_seq | apply aw_region | apply aw_ret | apply aw_skip | apply aw_exit | apply aw_block | apply es_nil
          | (apply es_pure hT; (iterate 4 exact rfl)) | (apply es_skip; (iterate 3 exact rfl)) | (apply es_skip0; (iterate 2 exact rfl))
          | (apply es_i64 hT; (iterate 4 exact rfl); (iterate 2 omega))
          | (apply aw_draw [] [] hmix; decide +kernel)
          | (apply es_load; (iterate 5 exact rfl); first | exact ld_blk hT rfl rfl mem0 rfl rfl | exact ld_all hT rfl rfl mem0 rfl)
          | (apply es_load; (iterate 5 exact rfl); first | exact ld_blk hT rfl rfl mem1 rfl rfl | exact ld_all hT rfl rfl mem1 rfl)
          | (apply es_load; (iterate 5 exact rfl); first | exact ld_blk hT rfl rfl mem2 rfl rfl | exact ld_all hT rfl rfl mem2 rfl)
          | (apply es_box; (iterate 5 exact rfl); intro _) | (apply es_alloc hT; (iterate 5 exact rfl); intro _)
          | (apply aw_condT; (iterate 2 exact rfl)) | (apply aw_condF; (iterate 2 exact rfl))
          | (apply es_case; exact rfl; all_goals intro hb; all_goals (try simp only [hb]); all_goals (first | replace hb := of_decide_eq_true hb | replace hb := of_decide_eq_false hb | replace hb := bne_t hb | replace hb := bne_f hb | skip); all_goals (try (exfalso; omega)))
          | (apply aw_cond; exact rfl; all_goals intro hb; all_goals (try simp only [hb]); all_goals (first | replace hb := of_decide_eq_true hb | replace hb := of_decide_eq_false hb | replace hb := bne_t hb | replace hb := bne_f hb | skip); all_goals (try (exfalso; omega))))
        exact loopq_end (i + 1) (by (try dsimp only); omega) (by (try dsimp only); omega) ⟨rfl, rfl, rfl, trivial⟩ (dt_skip dt_end)
    · have hd1 : decide ((i : Int) < (qs.length : Int)) = false := by simp; omega
      have hkn := quo_known W
      repeat' (first
        | apply aw_seq | apply aw_region | apply aw_ret | apply aw_skip | apply aw_exit | apply aw_block | apply es_nil
        | (apply es_pure hT; (iterate 4 exact rfl)) | (apply es_skip; (iterate 3 exact rfl)) | (apply es_skip0; (iterate 2 exact rfl))
        | (apply es_i64 hT; (iterate 4 exact rfl); (iterate 2 omega))
        | (apply aw_draw [] [] hmix; decide +kernel)
        | (apply es_build hT; (iterate 4 exact rfl))
        | (apply es_callQ (hs := ((quo_PutNil W ⟨0, 0, 0, 0, 0, false⟩).mono (by simp))); (iterate 7 exact rfl))
        | (apply es_callQ (hs := ((quo_GetNil W 1).mono (by simp))); (iterate 7 exact rfl))
        | (apply es_alloc hT; (iterate 5 exact rfl); intro g12)
        | (apply es_store hT; (iterate 6 exact rfl); exact sel0; (iterate 3 exact rfl); exact Nat.le_of_ble_eq_true rfl)
        | (apply es_callQ (hs := ((quo_KillNil W 1).mono (by simp))); (iterate 7 exact rfl))
        | (apply es_callQ (hs := ((quo_PullNil W 1 1).mono (by simp))); (iterate 7 exact rfl))
        | (apply es_callQ (hs := ((quo_LiveNil W 1 1).mono (by simp))); (iterate 7 exact rfl))
        | (apply es_callQ (hs := ((quo_OfNil W 1).mono (by simp))); (iterate 7 exact rfl))
        | (apply es_callQ (hs := ((quo_ClearNil W 1).mono (by simp))); (iterate 7 exact rfl))
        | (apply es_callQ (hs := (hkn.mono (by simp))); (iterate 7 exact rfl))
        | (apply es_load; (iterate 5 exact rfl); first | exact ld_blk hT rfl rfl mem0 rfl rfl | exact ld_all hT rfl rfl mem0 rfl)
        | (apply es_load; (iterate 5 exact rfl); first | exact ld_blk hT rfl rfl mem1 rfl rfl | exact ld_all hT rfl rfl mem1 rfl)
        | (apply es_load; (iterate 5 exact rfl); first | exact ld_blk hT rfl rfl mem2 rfl rfl | exact ld_all hT rfl rfl mem2 rfl)
        | (apply es_load; (iterate 5 exact rfl); first | exact ld_blk hT rfl rfl mem0 rfl rfl | exact ld_all hT rfl rfl mem0 rfl)
        | (apply es_load; (iterate 5 exact rfl); first | exact ld_blk hT rfl rfl (List.mem_cons_of_mem _ mem0) rfl rfl | exact ld_all hT rfl rfl (List.mem_cons_of_mem _ mem0) rfl)
        | (apply es_load; (iterate 5 exact rfl); first | exact ld_blk hT rfl rfl mem1 rfl rfl | exact ld_all hT rfl rfl mem1 rfl)
        | (apply es_load; (iterate 5 exact rfl); first | exact ld_blk hT rfl rfl (List.mem_cons_of_mem _ mem1) rfl rfl | exact ld_all hT rfl rfl (List.mem_cons_of_mem _ mem1) rfl)
        | (apply es_box; (iterate 5 exact rfl); intro _) | (apply es_alloc hT; (iterate 5 exact rfl); intro _)
        | (apply aw_condT; (iterate 2 exact rfl)) | (apply aw_condF; (iterate 2 exact rfl))
        | (apply es_case; exact rfl; all_goals intro hb; all_goals (try simp only [hb]); all_goals (first | replace hb := of_decide_eq_true hb | replace hb := of_decide_eq_false hb | replace hb := bne_t hb | replace hb := bne_f hb | skip); all_goals (try (exfalso; omega)))
        | (apply aw_cond; exact rfl; all_goals intro hb; all_goals (try simp only [hb]); all_goals (first | replace hb := of_decide_eq_true hb | replace hb := of_decide_eq_false hb | replace hb := bne_t hb | replace hb := bne_f hb | skip); all_goals (try (exfalso; omega))))
      apply ret1; exact rfl; exact rfl

theorem decQuote (vs : List Value) (h : FitsL [.int .i64, .int .i64, .int .i64, .int .i64, .int .i64, .bool] vs) : ∃ x : Quote, Quote.enc x = vs ∧ True := by
  have hlen : vs.length = 6 := h.len
  match vs, hlen, h with
  | [u0, u1, u2, u3, u4, u5], _, h =>
    obtain ⟨a, ha, _⟩ := h.1
    obtain ⟨b, hb, _⟩ := h.2.1
    obtain ⟨c, hc, _⟩ := h.2.2.1
    obtain ⟨d, hd, _⟩ := h.2.2.2.1
    obtain ⟨e, he, _⟩ := h.2.2.2.2.1
    obtain ⟨f, hf⟩ := h.2.2.2.2.2.1
    exact ⟨⟨a, b, c, d, e, f⟩, by rw [ha, hb, hc, hd, he, hf]; rfl, trivial⟩
end Go.Proofs.Ytmoglacdddinjaa
