/- The document's answer on quotes, more: put, Live, Of, Clear, Put, Same. Conditions stand in each statement. -/
import Derived.Test.YtmoglacdddinjaaRef17L
set_option linter.unusedSimpArgs false
set_option linter.unusedVariables false
namespace Go.Proofs.Ytmoglacdddinjaa
open Go Go.Sl
attribute [local irreducible] AW ES EP Ld RetQ
set_option maxRecDepth 100000

theorem ref17_Same (W : World) (h : List Chunk) (A1 A2 : Option Addr) (c1 c2 : Nat) (l1 l2 : List Quote) (hr1 : Reads W h A1 l1.length 6 (l1.flatMap Quote.enc)) (hr2 : Reads W h A2 l2.length 6 (l2.flatMap Quote.enc)) (hb : l1.length ≤ 1000000) :
    QSpec Try.prog W 56 [.slice A1 l1.length c1, .slice A2 l2.length c2] h (.bool (decide (l1 = l2))) := by
  refine QSpec.ofD (fun h' hs => ?_)
  have hr1 := hr1.mono hs
  have hr2 := hr2.mono hs
  refine spec_body Try.func56 rfl rfl Try.results56 Try.ntmps56 rfl rfl ?_
  refine aw_reads hr1 (by rfl) (fun hA1 => ?_)
  refine aw_reads hr2 (by rfl) (fun hA2 => ?_)
  by_cases hl : l1.length = l2.length
  · have hd : ((l1.length : Int) != (l2.length : Int)) = false := by simp [hl]
    repeat' (first
      | apply aw_seq | apply aw_region | apply aw_ret | apply aw_skip | apply aw_exit | apply aw_block | apply es_nil
      | (apply es_pure hT; (iterate 4 exact rfl)) | (apply es_skip; (iterate 3 exact rfl)) | (apply es_skip0; (iterate 2 exact rfl))
      | (apply es_i64 hT; (iterate 4 exact rfl); (iterate 2 omega))
      | (apply aw_draw [] [] hmix; decide +kernel)
      | (apply es_load; (iterate 5 exact rfl); first | exact ld_blk hT rfl rfl mem0 rfl rfl | exact ld_all hT rfl rfl mem0 rfl)
      | (apply es_load; (iterate 5 exact rfl); first | exact ld_blk hT rfl rfl mem1 rfl rfl | exact ld_all hT rfl rfl mem1 rfl)
      | (apply es_load; (iterate 5 exact rfl); first | exact ld_blk hT rfl rfl mem2 rfl rfl | exact ld_all hT rfl rfl mem2 rfl)
      | (apply es_box; (iterate 5 exact rfl); intro _) | (apply es_alloc hT; (iterate 5 exact rfl); intro _)
      | (apply aw_condT; (iterate 2 exact rfl)) | (apply aw_condF; (iterate 2 exact rfl))
      | (apply es_case; exact rfl; all_goals intro hb; all_goals (try simp only [hb]); all_goals (first | replace hb := of_decide_eq_true hb | replace hb := of_decide_eq_false hb | replace hb := bne_t hb | replace hb := bne_f hb | skip); all_goals (try (exfalso; omega)))
      | (apply aw_cond; exact rfl; all_goals intro hb; all_goals (try simp only [hb]); all_goals (first | replace hb := of_decide_eq_true hb | replace hb := of_decide_eq_false hb | replace hb := bne_t hb | replace hb := bne_f hb | skip); all_goals (try (exfalso; omega))))
    refine aw_loop (α := Nat) (E := fun k => [(0, .slice A1 l1.length c1), (1, .slice A2 l2.length c2), (5, .int .i64 k)]) (H := fun _ => h') (μ := fun k => l1.length - k)
      (S := fun k => k ≤ l1.length ∧ l1.take k = l2.take k) 0 (J := []) ⟨Nat.zero_le _, rfl⟩ ⟨rfl, rfl, rfl, trivial⟩ (List.Perm.refl _) ?_
    rintro k ⟨hk, he⟩
    by_cases hlt : k < l1.length
    · obtain ⟨x, hx⟩ : ∃ x, l1[k]? = some x := ⟨l1[k]'(by omega), List.getElem?_eq_getElem (by omega)⟩
      obtain ⟨y, hy⟩ : ∃ y, l2[k]? = some y := ⟨l2[k]'(by omega), List.getElem?_eq_getElem (by omega)⟩
      have hx2 : l1[(k : Int).toNat]? = some x := by simpa using hx
      have hy2 : l2[(k : Int).toNat]? = some y := by simpa using hy
      have hA1 := hA1 (by omega)
      have hA2 := hA2 (by omega)
      have hd1 : decide ((k : Int) < (l1.length : Int)) = true := by simp; omega
      repeat' (first
        | apply aw_seq | apply aw_region | apply aw_ret | apply aw_skip | apply aw_exit | apply aw_block | apply es_nil
        | (apply es_pure hT; (iterate 4 exact rfl)) | (apply es_skip; (iterate 3 exact rfl)) | (apply es_skip0; (iterate 2 exact rfl))
        | (apply es_i64 hT; (iterate 4 exact rfl); (iterate 2 omega))
        | (apply aw_draw [] [] hmix; decide +kernel)
        | (apply es_idx hT; (iterate 8 exact rfl); (iterate 2 omega); first | exact hA1 | exact hA2)
        | (apply es_load; (iterate 5 exact rfl); first | exact ld_elem hT rfl rfl hr1 Quote.enc_len rfl hx2 rfl | exact ld_elem hT rfl rfl hr2 Quote.enc_len rfl hy2 rfl)
        | (apply es_neS hT; (iterate 5 exact rfl); exact rfl; exact sOKQuote)
        | (apply es_load; (iterate 5 exact rfl); first | exact ld_blk hT rfl rfl mem0 rfl rfl | exact ld_all hT rfl rfl mem0 rfl)
        | (apply es_load; (iterate 5 exact rfl); first | exact ld_blk hT rfl rfl mem1 rfl rfl | exact ld_all hT rfl rfl mem1 rfl)
        | (apply es_load; (iterate 5 exact rfl); first | exact ld_blk hT rfl rfl mem2 rfl rfl | exact ld_all hT rfl rfl mem2 rfl)
        | (apply es_box; (iterate 5 exact rfl); intro _) | (apply es_alloc hT; (iterate 5 exact rfl); intro _)
        | (apply aw_condT; (iterate 2 exact rfl)) | (apply aw_condF; (iterate 2 exact rfl))
        | (apply es_case; exact rfl; all_goals intro hb; all_goals (try simp only [hb]); all_goals (first | replace hb := of_decide_eq_true hb | replace hb := of_decide_eq_false hb | replace hb := bne_t hb | replace hb := bne_f hb | skip); all_goals (try (exfalso; omega)))
        | (apply aw_cond; exact rfl; all_goals intro hb; all_goals (try simp only [hb]); all_goals (first | replace hb := of_decide_eq_true hb | replace hb := of_decide_eq_false hb | replace hb := bne_t hb | replace hb := bne_f hb | skip); all_goals (try (exfalso; omega))))
      · have hxy : x ≠ y := fun e => by subst e; simp at hb
        apply ret1; exact rfl
        refine ⟨?_, dt_end⟩
        rw [decide_eq_false (fun e => hxy (by rw [e, hy] at hx; exact (Option.some.inj hx).symm))]
      · have hxy : x = y := by cases x; cases y; simpa [and_assoc] using hb
        exact ⟨k + 1, [], by dsimp only; omega, ⟨by omega, by rw [List.take_add_one, List.take_add_one, he, hx, hy, hxy]⟩, ⟨rfl, rfl, rfl, trivial⟩, List.Perm.refl _⟩
    · have hd1 : decide ((k : Int) < (l1.length : Int)) = false := by simp; omega
      obtain rfl : k = l1.length := by omega
      repeat' (first
        | apply aw_seq | apply aw_region | apply aw_ret | apply aw_skip | apply aw_exit | apply aw_block | apply es_nil
        | (apply es_pure hT; (iterate 4 exact rfl)) | (apply es_skip; (iterate 3 exact rfl)) | (apply es_skip0; (iterate 2 exact rfl))
        | (apply es_i64 hT; (iterate 4 exact rfl); (iterate 2 omega))
        | (apply aw_draw [] [] hmix; decide +kernel)
        | (apply es_load; (iterate 5 exact rfl); first | exact ld_blk hT rfl rfl mem0 rfl rfl | exact ld_all hT rfl rfl mem0 rfl)
        | (apply es_load; (iterate 5 exact rfl); first | exact ld_blk hT rfl rfl mem1 rfl rfl | exact ld_all hT rfl rfl mem1 rfl)
        | (apply es_load; (iterate 5 exact rfl); first | exact ld_blk hT rfl rfl mem2 rfl rfl | exact ld_all hT rfl rfl mem2 rfl)
        | (apply es_box; (iterate 5 exact rfl); intro _) | (apply es_alloc hT; (iterate 5 exact rfl); intro _)
        | (apply aw_condT; (iterate 2 exact rfl)) | (apply aw_condF; (iterate 2 exact rfl))
        | (apply es_case; exact rfl; all_goals intro hb; all_goals (try simp only [hb]); all_goals (first | replace hb := of_decide_eq_true hb | replace hb := of_decide_eq_false hb | replace hb := bne_t hb | replace hb := bne_f hb | skip); all_goals (try (exfalso; omega)))
        | (apply aw_cond; exact rfl; all_goals intro hb; all_goals (try simp only [hb]); all_goals (first | replace hb := of_decide_eq_true hb | replace hb := of_decide_eq_false hb | replace hb := bne_t hb | replace hb := bne_f hb | skip); all_goals (try (exfalso; omega))))
      apply ret1; exact rfl
      refine ⟨?_, dt_end⟩
      rw [decide_eq_true (show l1 = l2 by rw [List.take_length] at he; rw [he, hl, List.take_length])]
  · have hd : ((l1.length : Int) != (l2.length : Int)) = true := by simp; omega
    repeat' (first
      | apply aw_seq | apply aw_region | apply aw_ret | apply aw_skip | apply aw_exit | apply aw_block | apply es_nil
      | (apply es_pure hT; (iterate 4 exact rfl)) | (apply es_skip; (iterate 3 exact rfl)) | (apply es_skip0; (iterate 2 exact rfl))
      | (apply es_i64 hT; (iterate 4 exact rfl); (iterate 2 omega))
      | (apply aw_draw [] [] hmix; decide +kernel)
      | (apply es_load; (iterate 5 exact rfl); first | exact ld_blk hT rfl rfl mem0 rfl rfl | exact ld_all hT rfl rfl mem0 rfl)
      | (apply es_load; (iterate 5 exact rfl); first | exact ld_blk hT rfl rfl mem1 rfl rfl | exact ld_all hT rfl rfl mem1 rfl)
      | (apply es_load; (iterate 5 exact rfl); first | exact ld_blk hT rfl rfl mem2 rfl rfl | exact ld_all hT rfl rfl mem2 rfl)
      | (apply es_box; (iterate 5 exact rfl); intro _) | (apply es_alloc hT; (iterate 5 exact rfl); intro _)
      | (apply aw_condT; (iterate 2 exact rfl)) | (apply aw_condF; (iterate 2 exact rfl))
      | (apply es_case; exact rfl; all_goals intro hb; all_goals (try simp only [hb]); all_goals (first | replace hb := of_decide_eq_true hb | replace hb := of_decide_eq_false hb | replace hb := bne_t hb | replace hb := bne_f hb | skip); all_goals (try (exfalso; omega)))
      | (apply aw_cond; exact rfl; all_goals intro hb; all_goals (try simp only [hb]); all_goals (first | replace hb := of_decide_eq_true hb | replace hb := of_decide_eq_false hb | replace hb := bne_t hb | replace hb := bne_f hb | skip); all_goals (try (exfalso; omega))))
    apply ret1; exact rfl
    refine ⟨?_, dt_end⟩
    rw [decide_eq_false (fun e => hl (by rw [e]))]

theorem insR_len (out : List Quote) (x : Quote) : (insR out x).length = out.length + 1 := by
  have := bsN_le (c := cQ x.id) (l := out)
  unfold insR; simp; omega
set_option maxHeartbeats 2000000 in
theorem ref17_put (W : World) (h : List Chunk) (A : Option Addr) (c : Nat) (l : List Quote) (x : Quote) (hr : Reads W h A l.length 6 (l.flatMap Quote.enc)) (hnc : l.length ≤ c) (hcc : c ≤ 9223372036854775807) (hb : l.length ≤ 1000000) :
    FSpec Try.prog W 82 [.slice A l.length c, .agg x.enc.toArray] h (fun v h' => ∃ A' c', v = .slice A' (insR l x).length c' ∧ h' = .own A' (insR l x).length c' 25 6 ((insR l x).flatMap Quote.enc) :: h ∧ OwnF A' (insR l x).length c' 6 ((insR l x).flatMap Quote.enc)) := by
  refine FSpec.dropF ?_
  refine spec_body Try.func82 rfl rfl Try.results82 Try.ntmps82 rfl rfl ?_
  refine aw_reads hr (by rfl) (fun hA => ?_)
  have hle := bsN_le (c := cQ x.id) (l := l)
  have hlenI0 := insR_len l x
  generalize hm : bsN (cQ x.id) l = m at hle
  have hpa : insR l x = l.take m ++ [x] ++ l.drop m := by simp [insR, hm]
  generalize hR : insR l x = r at hpa hlenI0
  have hlenI : r.length = 0 + (m : Int).toNat + 1 + (l.length - (m : Int).toNat) := by rw [hlenI0]; omega
  have hcs : ([] : List Value) ++ (l.flatMap Quote.enc).take (m * 6) ++ x.enc ++ ((l.flatMap Quote.enc).drop (m * 6)).take ((l.length - m) * 6) = r.flatMap Quote.enc := by
    have e : (l.drop m).take (l.length - m) = l.drop m := List.take_of_length_le (by simp)
    rw [flat_take Quote.enc_len, flat_drop Quote.enc_len, flat_take Quote.enc_len, e, hpa]; simp
  repeat' (first
    | apply aw_seq | apply aw_region | apply aw_ret | apply aw_skip | apply aw_exit | apply aw_block | apply es_nil
    | (apply es_pure hT; (iterate 4 exact rfl)) | (apply es_skip; (iterate 3 exact rfl)) | (apply es_skip0; (iterate 2 exact rfl))
    | (apply es_i64 hT; (iterate 4 exact rfl); (iterate 2 omega))
    | (apply aw_draw [] [] hmix; decide +kernel)
    | (apply es_box; (iterate 5 exact rfl); intro gx)
    | (apply es_load; (iterate 5 exact rfl); first | exact ld_blk hT rfl rfl mem0 rfl rfl | exact ld_all hT rfl rfl mem0 rfl)
    | (apply es_load; (iterate 5 exact rfl); first | exact ld_blk hT rfl rfl mem1 rfl rfl | exact ld_all hT rfl rfl mem1 rfl)
    | (apply es_load; (iterate 5 exact rfl); first | exact ld_blk hT rfl rfl mem2 rfl rfl | exact ld_all hT rfl rfl mem2 rfl)
    | (apply es_box; (iterate 5 exact rfl); intro _) | (apply es_alloc hT; (iterate 5 exact rfl); intro _)
    | (apply aw_condT; (iterate 2 exact rfl)) | (apply aw_condF; (iterate 2 exact rfl))
    | (apply es_case; exact rfl; all_goals intro hb; all_goals (try simp only [hb]); all_goals (first | replace hb := of_decide_eq_true hb | replace hb := of_decide_eq_false hb | replace hb := bne_t hb | replace hb := bne_f hb | skip); all_goals (try (exfalso; omega)))
    | (apply aw_cond; exact rfl; all_goals intro hb; all_goals (try simp only [hb]); all_goals (first | replace hb := of_decide_eq_true hb | replace hb := of_decide_eq_false hb | replace hb := bne_t hb | replace hb := bne_f hb | skip); all_goals (try (exfalso; omega))))
  have hr2 : Reads W (.blk gx 25 x.enc :: h) A l.length 6 (l.flatMap Quote.enc) := hr.cons
  have R1 := hr2.take hle
  have R2 := hr2.cut hnc hle (Nat.le_refl _)
  refine aw_loop (α := Nat) (E := fun k => [(0, .slice A l.length c), (3, .pointer (some ⟨gx, 0, none⟩)), (5, .int .i64 k)]) (H := fun _ => .blk gx 25 x.enc :: h) (μ := fun k => l.length - k)
    (S := fun k => k ≤ m) 0 (J := []) (Nat.zero_le _) ⟨rfl, rfl, rfl, trivial⟩ (List.Perm.refl _) ?_
  intro k hk
  by_cases hkl : k < l.length
  · obtain ⟨y, hy⟩ : ∃ y, l[k]? = some y := ⟨l[k]'(by omega), List.getElem?_eq_getElem (by omega)⟩
    have hy2 : l[(k : Int).toNat]? = some y := by simpa using hy
    have hA2 := hA (by omega)
    have hd1 : decide ((k : Int) < (l.length : Int)) = true := by simp; omega
    by_cases hkm : k < m
    · have hya : y.id < x.id := by
        have h2 := take_while_all (p := fun z => decide (cQ x.id z < 0)) (l := l) y (by
          have : (l.takeWhile fun z => decide (cQ x.id z < 0)).length = m := hm
          rw [this]; exact List.mem_of_getElem? (i := k) (by rw [List.getElem?_take, if_pos hkm]; exact hy))
        exact cQ_neg.1 (by simpa using h2)
      have hd2 : decide (y.id < x.id) = true := by simpa using hya
      repeat' (first
        | apply aw_seq | apply aw_region | apply aw_ret | apply aw_skip | apply aw_exit | apply aw_block | apply es_nil
        | (apply es_pure hT; (iterate 4 exact rfl)) | (apply es_skip; (iterate 3 exact rfl)) | (apply es_skip0; (iterate 2 exact rfl))
        | (apply es_i64 hT; (iterate 4 exact rfl); (iterate 2 omega))
        | (apply aw_draw [] [] hmix; decide +kernel)
        | (apply es_idx hT; (iterate 8 exact rfl); (iterate 2 omega); exact hA2)
        | (apply es_load; (iterate 5 exact rfl); exact ld_fld hT rfl rfl hr2 Quote.enc_len (adr_add _ _ _) hy2 (by decide) rfl)
        | (apply es_load; (iterate 5 exact rfl); first | exact ld_blk hT rfl rfl mem0 rfl rfl | exact ld_all hT rfl rfl mem0 rfl)
        | (apply es_load; (iterate 5 exact rfl); first | exact ld_blk hT rfl rfl mem1 rfl rfl | exact ld_all hT rfl rfl mem1 rfl)
        | (apply es_load; (iterate 5 exact rfl); first | exact ld_blk hT rfl rfl mem2 rfl rfl | exact ld_all hT rfl rfl mem2 rfl)
        | (apply es_load; (iterate 5 exact rfl); first | exact ld_blk hT rfl rfl mem0 rfl rfl | exact ld_all hT rfl rfl mem0 rfl)
        | (apply es_load; (iterate 5 exact rfl); first | exact ld_blk hT rfl rfl (List.mem_cons_of_mem _ mem0) rfl rfl | exact ld_all hT rfl rfl (List.mem_cons_of_mem _ mem0) rfl)
        | (apply es_box; (iterate 5 exact rfl); intro _) | (apply es_alloc hT; (iterate 5 exact rfl); intro _)
        | (apply aw_condT; (iterate 2 exact rfl)) | (apply aw_condF; (iterate 2 exact rfl))
        | (apply es_case; exact rfl; all_goals intro hb; all_goals (try simp only [hb]); all_goals (first | replace hb := of_decide_eq_true hb | replace hb := of_decide_eq_false hb | replace hb := bne_t hb | replace hb := bne_f hb | skip); all_goals (try (exfalso; omega)))
        | (apply aw_cond; exact rfl; all_goals intro hb; all_goals (try simp only [hb]); all_goals (first | replace hb := of_decide_eq_true hb | replace hb := of_decide_eq_false hb | replace hb := bne_t hb | replace hb := bne_f hb | skip); all_goals (try (exfalso; omega))))
      all_goals first
        | (exfalso; omega)
        | exact ⟨k + 1, [], by (try dsimp only); omega, by (try dsimp only); omega, ⟨rfl, rfl, rfl, trivial⟩, List.Perm.refl _⟩
        | (exfalso; simp_all; done)
    · obtain rfl : k = m := by omega
      have hya : ¬ y.id < x.id := by
        cases hm2 : l.drop k with
        | nil => simp at hm2; omega
        | cons z r =>
          have hz := drop_while_head (p := fun z => decide (cQ x.id z < 0)) (l := l) (y := z) (m := r) (by
            have : (l.takeWhile fun z => decide (cQ x.id z < 0)).length = k := hm
            rw [this]; exact hm2)
          have : l[k]? = some z := by
            have := congrArg (·[0]?) hm2
            simpa using this
          rw [hy] at this; cases this
          rw [← cQ_neg (id := x.id)]; simpa using hz
      have hd2 : decide (y.id < x.id) = false := by simpa using hya
      repeat' (first
        | apply aw_seq | apply aw_region | apply aw_ret | apply aw_skip | apply aw_exit | apply aw_block | apply es_nil
        | (apply es_pure hT; (iterate 4 exact rfl)) | (apply es_skip; (iterate 3 exact rfl)) | (apply es_skip0; (iterate 2 exact rfl))
        | (apply es_i64 hT; (iterate 4 exact rfl); (iterate 2 omega))
        | (apply aw_draw [] [] hmix; decide +kernel)
        | (apply es_idx hT; (iterate 8 exact rfl); (iterate 2 omega); exact hA2)
        | ((first | (apply es_load; (iterate 5 exact rfl)) | (apply es_loadL; (iterate 5 exact rfl); first | exact fun _ h => h)); exact ld_fld hT rfl rfl hr2 Quote.enc_len (adr_add _ _ _) hy2 (by decide) rfl)
        | (apply aw_tree [] [] (.step 1 <| .step 2 <| .step 3 <| .step 5 <| .step 8 <| .step 9 <| .step 10 <| .alt (.step 0 <| .alt (.step 4 <| .step 6 <| .step 7 <| .step 11 <| .step 12 <| .nil) ((.step 6 <| .step 4 <| .step 7 <| .step 11 <| .step 12 <| .nil))) ((.step 6 <| .step 0 <| .step 4 <| .step 7 <| .step 11 <| .step 12 <| .nil))) hmix; decide +kernel) | apply ep_nil | apply ep_alt | (apply ep_step; exact rfl)
        | (apply es_sliceTo hT; (iterate 8 exact rfl); (iterate 2 omega))
        | (apply es_sliceFrom hT; (iterate 8 exact rfl); (iterate 3 omega); exact rfl)
        | (apply es_buildSlice hT; (iterate 12 exact rfl); intro g)
        | (apply es_appendG hT; (iterate 10 exact rfl); (first | exact sel0 | exact sel1 | exact selS sel1 | exact selS (selS sel1) | exact selS (selS (selS sel1)) | exact selS (selS (selS (selS sel1))) | exact selS (selS (selS (selS (selS sel1)))) | exact selS (selS (selS (selS (selS (selS sel1)))))); (first | (refine R1.mono ?_; (first | exact fun _ h => h | exact fun _ h => .tail _ h | exact fun _ h => .tail _ (.tail _ h) | exact fun _ h => .tail _ (.tail _ (.tail _ h)) | exact fun _ h => .tail _ (.tail _ (.tail _ (.tail _ h))))) | (refine R2.mono ?_; (first | exact fun _ h => h | exact fun _ h => .tail _ h | exact fun _ h => .tail _ (.tail _ h) | exact fun _ h => .tail _ (.tail _ (.tail _ h)) | exact fun _ h => .tail _ (.tail _ (.tail _ (.tail _ h))))) | exact Reads.own mem0 rfl (Quote.enc_one x) | exact Reads.own mem1 rfl (Quote.enc_one x) | exact Reads.own mem2 rfl (Quote.enc_one x)); (first | exact fun _ h => h | exact fun _ h => .tail _ h | exact fun _ h => .tail _ (.tail _ h) | exact fun _ h => .tail _ (.tail _ (.tail _ h)) | exact fun _ h => .tail _ (.tail _ (.tail _ (.tail _ h)))); omega; (show (_ : Nat) * 48 ≤ _; omega); intro A' c')
        | ((first | (apply es_load; (iterate 5 exact rfl)) | (apply es_loadL; (iterate 5 exact rfl); first | exact fun _ h => h)); first | exact ld_blk hT rfl rfl mem0 rfl rfl | exact ld_all hT rfl rfl mem0 rfl)
        | ((first | (apply es_load; (iterate 5 exact rfl)) | (apply es_loadL; (iterate 5 exact rfl); first | exact fun _ h => h)); first | exact ld_blk hT rfl rfl mem1 rfl rfl | exact ld_all hT rfl rfl mem1 rfl)
        | ((first | (apply es_load; (iterate 5 exact rfl)) | (apply es_loadL; (iterate 5 exact rfl); first | exact fun _ h => h)); first | exact ld_blk hT rfl rfl mem2 rfl rfl | exact ld_all hT rfl rfl mem2 rfl)
        | ((first | (apply es_load; (iterate 5 exact rfl)) | (apply es_loadL; (iterate 5 exact rfl); first | exact fun _ h => h)); first | exact ld_blk hT rfl rfl mem0 rfl rfl | exact ld_all hT rfl rfl mem0 rfl)
        | ((first | (apply es_load; (iterate 5 exact rfl)) | (apply es_loadL; (iterate 5 exact rfl); first | exact fun _ h => h)); first | exact ld_blk hT rfl rfl (List.mem_cons_of_mem _ mem0) rfl rfl | exact ld_all hT rfl rfl (List.mem_cons_of_mem _ mem0) rfl)
        | ((first | (apply es_load; (iterate 5 exact rfl)) | (apply es_loadL; (iterate 5 exact rfl); first | exact fun _ h => h)); first | exact ld_blk hT rfl rfl (List.mem_cons_of_mem _ (List.mem_cons_of_mem _ mem0)) rfl rfl | exact ld_all hT rfl rfl (List.mem_cons_of_mem _ (List.mem_cons_of_mem _ mem0)) rfl)
        | ((first | (apply es_load; (iterate 5 exact rfl)) | (apply es_loadL; (iterate 5 exact rfl); first | exact fun _ h => h)); first | exact ld_blk hT rfl rfl (List.mem_cons_of_mem _ (List.mem_cons_of_mem _ (List.mem_cons_of_mem _ mem0))) rfl rfl | exact ld_all hT rfl rfl (List.mem_cons_of_mem _ (List.mem_cons_of_mem _ (List.mem_cons_of_mem _ mem0))) rfl)
        | (apply es_box; (iterate 5 exact rfl); intro _) | (apply es_alloc hT; (iterate 5 exact rfl); intro _)
        | (apply aw_condT; (iterate 2 exact rfl)) | (apply aw_condF; (iterate 2 exact rfl))
        | (apply es_case; exact rfl; all_goals intro hb; all_goals (try simp only [hb]); all_goals (first | replace hb := of_decide_eq_true hb | replace hb := of_decide_eq_false hb | replace hb := bne_t hb | replace hb := bne_f hb | skip); all_goals (try (exfalso; omega)))
        | (apply aw_cond; exact rfl; all_goals intro hb; all_goals (try simp only [hb]); all_goals (first | replace hb := of_decide_eq_true hb | replace hb := of_decide_eq_false hb | replace hb := bne_t hb | replace hb := bne_f hb | skip); all_goals (try (exfalso; omega))))
      all_goals first
        | (exfalso; omega)
        | (apply ret1; exact rfl
           refine ⟨.own A' r.length c' 25 6 (r.flatMap Quote.enc) :: h, ?_, fun w hw => ⟨A', c', by rw [hlenI], rfl, hw.ownF mem0⟩⟩
           rw [hlenI, ← hcs]
           apply dt_cons; (first | exact sel0 | exact sel1 | exact selS sel1 | exact selS (selS sel1) | exact selS (selS (selS sel1)) | exact selS (selS (selS (selS sel1))) | exact selS (selS (selS (selS (selS sel1)))) | exact selS (selS (selS (selS (selS (selS sel1))))))
           (repeat (first | exact dt_end | apply dt_skip)))
  · obtain rfl : m = l.length := by omega
    obtain rfl : k = l.length := by omega
    have hd1 : decide ((l.length : Int) < (l.length : Int)) = false := by simp
    repeat' (first
      | apply aw_seq | apply aw_region | apply aw_ret | apply aw_skip | apply aw_exit | apply aw_block | apply es_nil
      | (apply es_pure hT; (iterate 4 exact rfl)) | (apply es_skip; (iterate 3 exact rfl)) | (apply es_skip0; (iterate 2 exact rfl))
      | (apply es_i64 hT; (iterate 4 exact rfl); (iterate 2 omega))
      | (apply aw_draw [] [] hmix; decide +kernel)
      | (apply aw_tree [] [] (.step 1 <| .step 2 <| .step 3 <| .step 5 <| .step 8 <| .step 9 <| .step 10 <| .alt (.step 0 <| .alt (.step 4 <| .step 6 <| .step 7 <| .step 11 <| .step 12 <| .nil) ((.step 6 <| .step 4 <| .step 7 <| .step 11 <| .step 12 <| .nil))) ((.step 6 <| .step 0 <| .step 4 <| .step 7 <| .step 11 <| .step 12 <| .nil))) hmix; decide +kernel) | apply ep_nil | apply ep_alt | (apply ep_step; exact rfl)
      | (apply es_sliceTo hT; (iterate 8 exact rfl); (iterate 2 omega))
      | (apply es_sliceFrom hT; (iterate 8 exact rfl); (iterate 3 omega); exact rfl)
      | (apply es_buildSlice hT; (iterate 12 exact rfl); intro g)
      | (apply es_appendG hT; (iterate 10 exact rfl); (first | exact sel0 | exact sel1 | exact selS sel1 | exact selS (selS sel1) | exact selS (selS (selS sel1)) | exact selS (selS (selS (selS sel1))) | exact selS (selS (selS (selS (selS sel1)))) | exact selS (selS (selS (selS (selS (selS sel1)))))); (first | (refine R1.mono ?_; (first | exact fun _ h => h | exact fun _ h => .tail _ h | exact fun _ h => .tail _ (.tail _ h) | exact fun _ h => .tail _ (.tail _ (.tail _ h)) | exact fun _ h => .tail _ (.tail _ (.tail _ (.tail _ h))))) | (refine R2.mono ?_; (first | exact fun _ h => h | exact fun _ h => .tail _ h | exact fun _ h => .tail _ (.tail _ h) | exact fun _ h => .tail _ (.tail _ (.tail _ h)) | exact fun _ h => .tail _ (.tail _ (.tail _ (.tail _ h))))) | exact Reads.own mem0 rfl (Quote.enc_one x) | exact Reads.own mem1 rfl (Quote.enc_one x) | exact Reads.own mem2 rfl (Quote.enc_one x)); (first | exact fun _ h => h | exact fun _ h => .tail _ h | exact fun _ h => .tail _ (.tail _ h) | exact fun _ h => .tail _ (.tail _ (.tail _ h)) | exact fun _ h => .tail _ (.tail _ (.tail _ (.tail _ h)))); omega; (show (_ : Nat) * 48 ≤ _; omega); intro A' c')
      | ((first | (apply es_load; (iterate 5 exact rfl)) | (apply es_loadL; (iterate 5 exact rfl); first | exact fun _ h => h)); first | exact ld_blk hT rfl rfl mem0 rfl rfl | exact ld_all hT rfl rfl mem0 rfl)
      | ((first | (apply es_load; (iterate 5 exact rfl)) | (apply es_loadL; (iterate 5 exact rfl); first | exact fun _ h => h)); first | exact ld_blk hT rfl rfl mem1 rfl rfl | exact ld_all hT rfl rfl mem1 rfl)
      | ((first | (apply es_load; (iterate 5 exact rfl)) | (apply es_loadL; (iterate 5 exact rfl); first | exact fun _ h => h)); first | exact ld_blk hT rfl rfl mem2 rfl rfl | exact ld_all hT rfl rfl mem2 rfl)
      | ((first | (apply es_load; (iterate 5 exact rfl)) | (apply es_loadL; (iterate 5 exact rfl); first | exact fun _ h => h)); first | exact ld_blk hT rfl rfl mem0 rfl rfl | exact ld_all hT rfl rfl mem0 rfl)
      | ((first | (apply es_load; (iterate 5 exact rfl)) | (apply es_loadL; (iterate 5 exact rfl); first | exact fun _ h => h)); first | exact ld_blk hT rfl rfl (List.mem_cons_of_mem _ mem0) rfl rfl | exact ld_all hT rfl rfl (List.mem_cons_of_mem _ mem0) rfl)
      | ((first | (apply es_load; (iterate 5 exact rfl)) | (apply es_loadL; (iterate 5 exact rfl); first | exact fun _ h => h)); first | exact ld_blk hT rfl rfl (List.mem_cons_of_mem _ (List.mem_cons_of_mem _ mem0)) rfl rfl | exact ld_all hT rfl rfl (List.mem_cons_of_mem _ (List.mem_cons_of_mem _ mem0)) rfl)
      | ((first | (apply es_load; (iterate 5 exact rfl)) | (apply es_loadL; (iterate 5 exact rfl); first | exact fun _ h => h)); first | exact ld_blk hT rfl rfl (List.mem_cons_of_mem _ (List.mem_cons_of_mem _ (List.mem_cons_of_mem _ mem0))) rfl rfl | exact ld_all hT rfl rfl (List.mem_cons_of_mem _ (List.mem_cons_of_mem _ (List.mem_cons_of_mem _ mem0))) rfl)
      | (apply es_box; (iterate 5 exact rfl); intro _) | (apply es_alloc hT; (iterate 5 exact rfl); intro _)
      | (apply aw_condT; (iterate 2 exact rfl)) | (apply aw_condF; (iterate 2 exact rfl))
      | (apply es_case; exact rfl; all_goals intro hb; all_goals (try simp only [hb]); all_goals (first | replace hb := of_decide_eq_true hb | replace hb := of_decide_eq_false hb | replace hb := bne_t hb | replace hb := bne_f hb | skip); all_goals (try (exfalso; omega)))
      | (apply aw_cond; exact rfl; all_goals intro hb; all_goals (try simp only [hb]); all_goals (first | replace hb := of_decide_eq_true hb | replace hb := of_decide_eq_false hb | replace hb := bne_t hb | replace hb := bne_f hb | skip); all_goals (try (exfalso; omega))))
    all_goals first
      | (exfalso; omega)
      | (apply ret1; exact rfl
         refine ⟨.own A' r.length c' 25 6 (r.flatMap Quote.enc) :: h, ?_, fun w hw => ⟨A', c', by rw [hlenI], rfl, hw.ownF mem0⟩⟩
         rw [hlenI, ← hcs]
         apply dt_cons; (first | exact sel0 | exact sel1 | exact selS sel1 | exact selS (selS sel1) | exact selS (selS (selS sel1)) | exact selS (selS (selS (selS sel1))) | exact selS (selS (selS (selS (selS sel1)))) | exact selS (selS (selS (selS (selS (selS sel1))))))
         (repeat (first | exact dt_end | apply dt_skip)))
/-- .. of a row of the call's own, which goes -/
theorem ref17_putO (W : World) (h : List Chunk) (A : Option Addr) (c : Nat) (l : List Quote) (x : Quote) (m : Chunk.own A l.length c 25 6 (l.flatMap Quote.enc) ∈ h) (hf : OwnF A l.length c 6 (l.flatMap Quote.enc)) (hb : l.length ≤ 1000000) :
    FSpec Try.prog W 82 [.slice A l.length c, .agg x.enc.toArray] h (fun v h' => ∃ A' c', v = .slice A' (insR l x).length c' ∧ h' = .own A' (insR l x).length c' 25 6 ((insR l x).flatMap Quote.enc) :: h ∧ OwnF A' (insR l x).length c' 6 ((insR l x).flatMap Quote.enc)) :=
  ref17_put W h A c l x (hf.reads m) hf.nc hf.cc hb

theorem sortR_len (l : List Quote) : (sortR l).length = l.length := by
  have := (sort_perm l []).length_eq
  rw [List.append_nil] at this; exact this
theorem sortR_add (l : List Quote) (x : Quote) : sortR (l ++ [x]) = insR (sortR l) x := by simp [sortR, List.foldl_append]
theorem OwnF.nil_ {k : Nat} : OwnF none 0 0 k [] := ⟨by simp, Nat.le_refl _, by omega, fun h => by omega, fun h => by omega, fun _ => rfl, by simp⟩

theorem aw_own {P : Program} {W : World} {N : Nat} {env : Env} {h : List Chunk} {Q : Exit → Env → List Chunk → Prop} {c : Code} {A : Option Addr} {n cc k : Nat} {e : TypeId} {cs : List Value} (hm : Chunk.own A n cc e k cs ∈ h)
    (hc : OwnF A n cc k cs → AW P W N c env h Q) : AW P W N c env h Q := aw_conv fun w hw => ⟨h, hw, hc (hw.ownF hm)⟩

set_option maxHeartbeats 1000000 in
theorem ref17_Live (W : World) (h : List Chunk) (q : Nat) (A : Option Addr) (c : Nat) (l : List Quote) (ask tick : Int) (m1 : Chunk.blk q 92 [.slice A l.length c] ∈ h) (m2 : Chunk.own A l.length c 25 6 (l.flatMap Quote.enc) ∈ h) (hb : l.length ≤ 1000000) :
    FSpec Try.prog W 57 [.pointer (some ⟨q, 0, none⟩), .int .i64 ask, .int .i64 tick] h
      (fun v h' => ∃ A' c', v = .slice A' (sortR (l.filter (isLive ask tick))).length c' ∧ h' = .own A' (sortR (l.filter (isLive ask tick))).length c' 25 6 ((sortR (l.filter (isLive ask tick))).flatMap Quote.enc) :: h ∧ OwnF A' (sortR (l.filter (isLive ask tick))).length c' 6 ((sortR (l.filter (isLive ask tick))).flatMap Quote.enc)) := by
  refine FSpec.dropF ?_
  refine spec_body Try.func57 rfl rfl Try.results57 Try.ntmps57 rfl rfl ?_
  refine aw_fact m2 (fun hl hnc hcc hsome hnone hone => ?_)
  have hr : Reads W h A l.length 6 (l.flatMap Quote.enc) := Reads.own m2 hl hone
  repeat' (first
    | apply aw_seq | apply aw_region | apply aw_ret | apply aw_skip | apply aw_exit | apply aw_block | apply es_nil
    | (apply es_pure hT; (iterate 4 exact rfl)) | (apply es_skip; (iterate 3 exact rfl)) | (apply es_skip0; (iterate 2 exact rfl))
    | (apply es_i64 hT; (iterate 4 exact rfl); (iterate 2 omega))
    | (apply aw_draw [] [] hmix; decide +kernel)
    | (apply es_load; (iterate 5 exact rfl); first | exact ld_blk hT rfl rfl mem0 rfl rfl | exact ld_all hT rfl rfl mem0 rfl)
    | (apply es_load; (iterate 5 exact rfl); first | exact ld_blk hT rfl rfl mem1 rfl rfl | exact ld_all hT rfl rfl mem1 rfl)
    | (apply es_load; (iterate 5 exact rfl); first | exact ld_blk hT rfl rfl mem2 rfl rfl | exact ld_all hT rfl rfl mem2 rfl)
    | (apply es_box; (iterate 5 exact rfl); intro _) | (apply es_alloc hT; (iterate 5 exact rfl); intro _)
    | (apply aw_condT; (iterate 2 exact rfl)) | (apply aw_condF; (iterate 2 exact rfl))
    | (apply es_case; exact rfl; all_goals intro hb; all_goals (try simp only [hb]); all_goals (first | replace hb := of_decide_eq_true hb | replace hb := of_decide_eq_false hb | replace hb := bne_t hb | replace hb := bne_f hb | skip); all_goals (try (exfalso; omega)))
    | (apply aw_cond; exact rfl; all_goals intro hb; all_goals (try simp only [hb]); all_goals (first | replace hb := of_decide_eq_true hb | replace hb := of_decide_eq_false hb | replace hb := bne_t hb | replace hb := bne_f hb | skip); all_goals (try (exfalso; omega))))
  refine aw_conv (fun w hw => ⟨_, hw.own_nil 25 6, ?_⟩)
  have hml : ∀ k, (sortR ((l.take k).filter (isLive ask tick))).length ≤ k := fun k => by
    rw [sortR_len]
    have := List.length_filter_le (isLive ask tick) (l.take k); simp at this; omega
  refine aw_loop (α := Nat × Option Addr × Nat) (E := fun x => [(0, .pointer (some ⟨q, 0, none⟩)), (1, .int .i64 ask), (2, .int .i64 tick), (7, .slice x.2.1 (sortR ((l.take x.1).filter (isLive ask tick))).length x.2.2), (8, .int .i64 x.1)])
    (H := fun x => .own x.2.1 (sortR ((l.take x.1).filter (isLive ask tick))).length x.2.2 25 6 ((sortR ((l.take x.1).filter (isLive ask tick))).flatMap Quote.enc) :: h) (μ := fun x => l.length - x.1)
    (S := fun x => x.1 ≤ l.length) (0, none, 0) (J := []) (Nat.zero_le _) ⟨rfl, rfl, rfl, rfl, rfl, trivial⟩ (List.Perm.refl _) ?_
  rintro ⟨k, A7, c7⟩ hk
  dsimp only at hk ⊢
  refine aw_own mem0 (fun hf7 => ?_)
  have hmk := hml k
  by_cases hlt : k < l.length
  · obtain ⟨x, hx⟩ : ∃ x, l[k]? = some x := ⟨l[k]'(by omega), List.getElem?_eq_getElem (by omega)⟩
    have hx2 : l[(k : Int).toNat]? = some x := by simpa using hx
    obtain ⟨g, hA⟩ := hsome (by omega)
    have hA2 : A.isSome = true := by rw [hA]; rfl
    have hd1 : decide ((k : Int) < (l.length : Int)) = true := by simp; omega
    have hrc := fun X => hr.cons (c := X)
    cases hlv : isLive ask tick x
    · have hstep : (l.take (k + 1)).filter (isLive ask tick) = (l.take k).filter (isLive ask tick) := by
        rw [List.take_add_one, hx, List.filter_append]; simp [hlv]
      cases hxl : x.live
      all_goals
        have e : x.enc = [.int .i64 x.id, .int .i64 x.ask, .int .i64 x.dealer, .int .i64 x.price, .int .i64 x.expires, .bool x.live] := rfl
        rw [hxl] at e
        have e5 : (Quote.enc x)[5]? = some (.bool x.live) := rfl
        rw [hxl] at e5
        repeat' (first
          | apply aw_seq | apply aw_region | apply aw_ret | apply aw_skip | apply aw_exit | apply aw_block | apply es_nil
          | (apply es_pure hT; (iterate 4 exact rfl)) | (apply es_skip; (iterate 3 exact rfl)) | (apply es_skip0; (iterate 2 exact rfl))
          | (apply es_i64 hT; (iterate 4 exact rfl); (iterate 2 omega))
          | (apply aw_draw [] [] hmix; decide +kernel)
          | (apply es_idx hT; (iterate 8 exact rfl); (iterate 2 omega); exact hA2)
          | (apply es_load; (iterate 5 exact rfl); first | exact ld_fld hT rfl rfl (hrc _) Quote.enc_len (adr_add _ _ _) hx2 (f := 5) (by decide) e5 | exact ld_fld hT rfl rfl (hrc _) Quote.enc_len (adr_add _ _ _) hx2 (f := 2) (by decide) rfl | ((first | rw [← e] | skip); exact ld_elem hT rfl rfl (hrc _) Quote.enc_len rfl hx2 rfl))
          | (apply es_alloc hT; (iterate 5 exact rfl); intro g7)
          | (apply es_store hT; (iterate 6 exact rfl); exact sel0; (iterate 3 exact rfl); exact Nat.le_of_ble_eq_true rfl)
          | (apply es_load; (iterate 5 exact rfl); first | exact ld_blk hT rfl rfl mem0 rfl rfl | exact ld_all hT rfl rfl mem0 rfl)
          | (apply es_load; (iterate 5 exact rfl); first | exact ld_blk hT rfl rfl mem1 rfl rfl | exact ld_all hT rfl rfl mem1 rfl)
          | (apply es_load; (iterate 5 exact rfl); first | exact ld_blk hT rfl rfl mem2 rfl rfl | exact ld_all hT rfl rfl mem2 rfl)
          | (apply es_load; (iterate 5 exact rfl); first | exact ld_blk hT rfl rfl mem0 rfl rfl | exact ld_all hT rfl rfl mem0 rfl)
          | (apply es_load; (iterate 5 exact rfl); first | exact ld_blk hT rfl rfl (List.mem_cons_of_mem _ mem0) rfl rfl | exact ld_all hT rfl rfl (List.mem_cons_of_mem _ mem0) rfl)
          | (apply es_load; (iterate 5 exact rfl); first | exact ld_blk hT rfl rfl (List.mem_cons_of_mem _ (List.mem_cons_of_mem _ mem0)) rfl rfl | exact ld_all hT rfl rfl (List.mem_cons_of_mem _ (List.mem_cons_of_mem _ mem0)) rfl)
          | (apply es_load; (iterate 5 exact rfl); first | exact ld_blk hT rfl rfl m1 rfl rfl | exact ld_all hT rfl rfl m1 rfl)
          | (apply es_load; (iterate 5 exact rfl); first | exact ld_blk hT rfl rfl (List.mem_cons_of_mem _ m1) rfl rfl | exact ld_all hT rfl rfl (List.mem_cons_of_mem _ m1) rfl)
          | (apply es_load; (iterate 5 exact rfl); first | exact ld_blk hT rfl rfl (List.mem_cons_of_mem _ (List.mem_cons_of_mem _ m1)) rfl rfl | exact ld_all hT rfl rfl (List.mem_cons_of_mem _ (List.mem_cons_of_mem _ m1)) rfl)
          | (apply es_box; (iterate 5 exact rfl); intro _) | (apply es_alloc hT; (iterate 5 exact rfl); intro _)
          | (apply aw_condT; (iterate 2 exact rfl)) | (apply aw_condF; (iterate 2 exact rfl))
          | (apply es_case; exact rfl; all_goals intro hb; all_goals (try simp only [hb]); all_goals (first | replace hb := of_decide_eq_true hb | replace hb := of_decide_eq_false hb | replace hb := bne_t hb | replace hb := bne_f hb | skip); all_goals (try (exfalso; omega)))
          | (apply aw_cond; exact rfl; all_goals intro hb; all_goals (try simp only [hb]); all_goals (first | replace hb := of_decide_eq_true hb | replace hb := of_decide_eq_false hb | replace hb := bne_t hb | replace hb := bne_f hb | skip); all_goals (try (exfalso; omega))))
      all_goals first
        | (refine loopq_end (k + 1, A7, c7) (by dsimp only; omega) (by dsimp only; omega) ⟨rfl, rfl, rfl, by dsimp only; rw [hstep]; rfl, rfl, trivial⟩ ?_
           dsimp only
           rw [hstep]
           first | exact dt_end | exact dt_skip dt_end)
        | (exfalso; simp_all [isLive, isOf]; done)
        | (exfalso; simp_all [isLive, isOf]; omega)
    · have hstep : sortR ((l.take (k + 1)).filter (isLive ask tick)) = insR (sortR ((l.take k).filter (isLive ask tick))) x := by
        rw [List.take_add_one, hx, List.filter_append, ← sortR_add]; simp [hlv]
      have hxl : x.live = true := by simp only [isLive, isOf, Bool.and_eq_true] at hlv; simp_all
      have e5 : (Quote.enc x)[5]? = some (.bool true) := by rw [← hxl]; rfl
      repeat' (first
        | apply aw_seq | apply aw_region | apply aw_ret | apply aw_skip | apply aw_exit | apply aw_block | apply es_nil
        | (apply es_pure hT; (iterate 4 exact rfl)) | (apply es_skip; (iterate 3 exact rfl)) | (apply es_skip0; (iterate 2 exact rfl))
        | (apply es_i64 hT; (iterate 4 exact rfl); (iterate 2 omega))
        | (apply aw_draw [] [] hmix; decide +kernel)
        | (apply es_idx hT; (iterate 8 exact rfl); (iterate 2 omega); exact hA2)
        | (apply es_load; (iterate 5 exact rfl); first | exact ld_fld hT rfl rfl (hrc _) Quote.enc_len (adr_add _ _ _) hx2 (f := 5) (by decide) e5 | exact ld_fld hT rfl rfl (hrc _) Quote.enc_len (adr_add _ _ _) hx2 (f := 2) (by decide) rfl | exact ld_elem hT rfl rfl (hrc _) Quote.enc_len rfl hx2 rfl)
        | (apply es_alloc hT; (iterate 5 exact rfl); intro g7)
        | (apply es_store hT; (iterate 6 exact rfl); exact sel0; (iterate 3 exact rfl); exact Nat.le_of_ble_eq_true rfl)
        | (apply es_call (hs := (ref17_putO W _ A7 c7 _ x mem1 hf7 (by omega))); (iterate 7 exact rfl); rintro _ _ ⟨A', c', rfl, rfl, hf'⟩)
        | (apply es_load; (iterate 5 exact rfl); first | exact ld_blk hT rfl rfl mem0 rfl rfl | exact ld_all hT rfl rfl mem0 rfl)
        | (apply es_load; (iterate 5 exact rfl); first | exact ld_blk hT rfl rfl mem1 rfl rfl | exact ld_all hT rfl rfl mem1 rfl)
        | (apply es_load; (iterate 5 exact rfl); first | exact ld_blk hT rfl rfl mem2 rfl rfl | exact ld_all hT rfl rfl mem2 rfl)
        | (apply es_load; (iterate 5 exact rfl); first | exact ld_blk hT rfl rfl mem0 rfl rfl | exact ld_all hT rfl rfl mem0 rfl)
        | (apply es_load; (iterate 5 exact rfl); first | exact ld_blk hT rfl rfl (List.mem_cons_of_mem _ mem0) rfl rfl | exact ld_all hT rfl rfl (List.mem_cons_of_mem _ mem0) rfl)
        | (apply es_load; (iterate 5 exact rfl); first | exact ld_blk hT rfl rfl (List.mem_cons_of_mem _ (List.mem_cons_of_mem _ mem0)) rfl rfl | exact ld_all hT rfl rfl (List.mem_cons_of_mem _ (List.mem_cons_of_mem _ mem0)) rfl)
        | (apply es_load; (iterate 5 exact rfl); first | exact ld_blk hT rfl rfl m1 rfl rfl | exact ld_all hT rfl rfl m1 rfl)
        | (apply es_load; (iterate 5 exact rfl); first | exact ld_blk hT rfl rfl (List.mem_cons_of_mem _ m1) rfl rfl | exact ld_all hT rfl rfl (List.mem_cons_of_mem _ m1) rfl)
        | (apply es_load; (iterate 5 exact rfl); first | exact ld_blk hT rfl rfl (List.mem_cons_of_mem _ (List.mem_cons_of_mem _ m1)) rfl rfl | exact ld_all hT rfl rfl (List.mem_cons_of_mem _ (List.mem_cons_of_mem _ m1)) rfl)
        | (apply es_box; (iterate 5 exact rfl); intro _) | (apply es_alloc hT; (iterate 5 exact rfl); intro _)
        | (apply aw_condT; (iterate 2 exact rfl)) | (apply aw_condF; (iterate 2 exact rfl))
        | (apply es_case; exact rfl; all_goals intro hb; all_goals (try simp only [hb]); all_goals (first | replace hb := of_decide_eq_true hb | replace hb := of_decide_eq_false hb | replace hb := bne_t hb | replace hb := bne_f hb | skip); all_goals (try (exfalso; omega)))
        | (apply aw_cond; exact rfl; all_goals intro hb; all_goals (try simp only [hb]); all_goals (first | replace hb := of_decide_eq_true hb | replace hb := of_decide_eq_false hb | replace hb := bne_t hb | replace hb := bne_f hb | skip); all_goals (try (exfalso; omega))))
      all_goals first
        | (refine loopq_end (k + 1, A', c') (by dsimp only; omega) (by dsimp only; omega) ⟨rfl, rfl, rfl, by dsimp only; rw [hstep]; rfl, rfl, trivial⟩ ?_
           dsimp only
           rw [hstep]
           apply dt_cons; (first | exact sel0 | exact sel1 | exact selS sel1 | exact selS (selS sel1) | exact selS (selS (selS sel1)) | exact selS (selS (selS (selS sel1))) | exact selS (selS (selS (selS (selS sel1)))) | exact selS (selS (selS (selS (selS (selS sel1))))))
           (repeat (first | exact dt_end | apply dt_skip)))
        | (exfalso; simp_all [isLive, isOf]; done)
        | (exfalso; simp_all [isLive, isOf]; omega)
  · obtain rfl : k = l.length := by omega
    have hd1 : decide ((l.length : Int) < (l.length : Int)) = false := by simp
    rw [List.take_length] at hf7 ⊢
    repeat' (first
      | apply aw_seq | apply aw_region | apply aw_ret | apply aw_skip | apply aw_exit | apply aw_block | apply es_nil
      | (apply es_pure hT; (iterate 4 exact rfl)) | (apply es_skip; (iterate 3 exact rfl)) | (apply es_skip0; (iterate 2 exact rfl))
      | (apply es_i64 hT; (iterate 4 exact rfl); (iterate 2 omega))
      | (apply aw_draw [] [] hmix; decide +kernel)
      | (apply es_load; (iterate 5 exact rfl); first | exact ld_blk hT rfl rfl mem0 rfl rfl | exact ld_all hT rfl rfl mem0 rfl)
      | (apply es_load; (iterate 5 exact rfl); first | exact ld_blk hT rfl rfl mem1 rfl rfl | exact ld_all hT rfl rfl mem1 rfl)
      | (apply es_load; (iterate 5 exact rfl); first | exact ld_blk hT rfl rfl mem2 rfl rfl | exact ld_all hT rfl rfl mem2 rfl)
      | (apply es_load; (iterate 5 exact rfl); first | exact ld_blk hT rfl rfl m1 rfl rfl | exact ld_all hT rfl rfl m1 rfl)
      | (apply es_load; (iterate 5 exact rfl); first | exact ld_blk hT rfl rfl (List.mem_cons_of_mem _ m1) rfl rfl | exact ld_all hT rfl rfl (List.mem_cons_of_mem _ m1) rfl)
      | (apply es_box; (iterate 5 exact rfl); intro _) | (apply es_alloc hT; (iterate 5 exact rfl); intro _)
      | (apply aw_condT; (iterate 2 exact rfl)) | (apply aw_condF; (iterate 2 exact rfl))
      | (apply es_case; exact rfl; all_goals intro hb; all_goals (try simp only [hb]); all_goals (first | replace hb := of_decide_eq_true hb | replace hb := of_decide_eq_false hb | replace hb := bne_t hb | replace hb := bne_f hb | skip); all_goals (try (exfalso; omega)))
      | (apply aw_cond; exact rfl; all_goals intro hb; all_goals (try simp only [hb]); all_goals (first | replace hb := of_decide_eq_true hb | replace hb := of_decide_eq_false hb | replace hb := bne_t hb | replace hb := bne_f hb | skip); all_goals (try (exfalso; omega))))
    apply ret1; exact rfl
    exact ⟨_, dt_end, fun w hw => ⟨A7, c7, rfl, rfl, hf7⟩⟩
set_option maxHeartbeats 1000000 in
theorem ref17_Of (W : World) (h : List Chunk) (q : Nat) (A : Option Addr) (c : Nat) (l : List Quote) (dealer : Int) (m1 : Chunk.blk q 92 [.slice A l.length c] ∈ h) (m2 : Chunk.own A l.length c 25 6 (l.flatMap Quote.enc) ∈ h) (hb : l.length ≤ 1000000) :
    FSpec Try.prog W 58 [.pointer (some ⟨q, 0, none⟩), .int .i64 dealer] h
      (fun v h' => ∃ A' c', v = .slice A' (sortR (l.filter (isOf dealer))).length c' ∧ h' = .own A' (sortR (l.filter (isOf dealer))).length c' 25 6 ((sortR (l.filter (isOf dealer))).flatMap Quote.enc) :: h ∧ OwnF A' (sortR (l.filter (isOf dealer))).length c' 6 ((sortR (l.filter (isOf dealer))).flatMap Quote.enc)) := by
  refine FSpec.dropF ?_
  refine spec_body Try.func58 rfl rfl Try.results58 Try.ntmps58 rfl rfl ?_
  refine aw_fact m2 (fun hl hnc hcc hsome hnone hone => ?_)
  have hr : Reads W h A l.length 6 (l.flatMap Quote.enc) := Reads.own m2 hl hone
  repeat' (first
    | apply aw_seq | apply aw_region | apply aw_ret | apply aw_skip | apply aw_exit | apply aw_block | apply es_nil
    | (apply es_pure hT; (iterate 4 exact rfl)) | (apply es_skip; (iterate 3 exact rfl)) | (apply es_skip0; (iterate 2 exact rfl))
    | (apply es_i64 hT; (iterate 4 exact rfl); (iterate 2 omega))
    | (apply aw_draw [] [] hmix; decide +kernel)
    | (apply es_load; (iterate 5 exact rfl); first | exact ld_blk hT rfl rfl mem0 rfl rfl | exact ld_all hT rfl rfl mem0 rfl)
    | (apply es_load; (iterate 5 exact rfl); first | exact ld_blk hT rfl rfl mem1 rfl rfl | exact ld_all hT rfl rfl mem1 rfl)
    | (apply es_load; (iterate 5 exact rfl); first | exact ld_blk hT rfl rfl mem2 rfl rfl | exact ld_all hT rfl rfl mem2 rfl)
    | (apply es_box; (iterate 5 exact rfl); intro _) | (apply es_alloc hT; (iterate 5 exact rfl); intro _)
    | (apply aw_condT; (iterate 2 exact rfl)) | (apply aw_condF; (iterate 2 exact rfl))
    | (apply es_case; exact rfl; all_goals intro hb; all_goals (try simp only [hb]); all_goals (first | replace hb := of_decide_eq_true hb | replace hb := of_decide_eq_false hb | replace hb := bne_t hb | replace hb := bne_f hb | skip); all_goals (try (exfalso; omega)))
    | (apply aw_cond; exact rfl; all_goals intro hb; all_goals (try simp only [hb]); all_goals (first | replace hb := of_decide_eq_true hb | replace hb := of_decide_eq_false hb | replace hb := bne_t hb | replace hb := bne_f hb | skip); all_goals (try (exfalso; omega))))
  refine aw_conv (fun w hw => ⟨_, hw.own_nil 25 6, ?_⟩)
  have hml : ∀ k, (sortR ((l.take k).filter (isOf dealer))).length ≤ k := fun k => by
    rw [sortR_len]
    have := List.length_filter_le (isOf dealer) (l.take k); simp at this; omega
  refine aw_loop (α := Nat × Option Addr × Nat) (E := fun x => [(0, .pointer (some ⟨q, 0, none⟩)), (1, .int .i64 dealer), (5, .slice x.2.1 (sortR ((l.take x.1).filter (isOf dealer))).length x.2.2), (6, .int .i64 x.1)])
    (H := fun x => .own x.2.1 (sortR ((l.take x.1).filter (isOf dealer))).length x.2.2 25 6 ((sortR ((l.take x.1).filter (isOf dealer))).flatMap Quote.enc) :: h) (μ := fun x => l.length - x.1)
    (S := fun x => x.1 ≤ l.length) (0, none, 0) (J := []) (Nat.zero_le _) ⟨rfl, rfl, rfl, rfl, trivial⟩ (List.Perm.refl _) ?_
  rintro ⟨k, A7, c7⟩ hk
  dsimp only at hk ⊢
  refine aw_own mem0 (fun hf7 => ?_)
  have hmk := hml k
  by_cases hlt : k < l.length
  · obtain ⟨x, hx⟩ : ∃ x, l[k]? = some x := ⟨l[k]'(by omega), List.getElem?_eq_getElem (by omega)⟩
    have hx2 : l[(k : Int).toNat]? = some x := by simpa using hx
    obtain ⟨g, hA⟩ := hsome (by omega)
    have hA2 : A.isSome = true := by rw [hA]; rfl
    have hd1 : decide ((k : Int) < (l.length : Int)) = true := by simp; omega
    have hrc := fun X => hr.cons (c := X)
    cases hlv : isOf dealer x
    · have hstep : (l.take (k + 1)).filter (isOf dealer) = (l.take k).filter (isOf dealer) := by
        rw [List.take_add_one, hx, List.filter_append]; simp [hlv]
      cases hxl : x.live
      all_goals
        have e : x.enc = [.int .i64 x.id, .int .i64 x.ask, .int .i64 x.dealer, .int .i64 x.price, .int .i64 x.expires, .bool x.live] := rfl
        rw [hxl] at e
        have e5 : (Quote.enc x)[5]? = some (.bool x.live) := rfl
        rw [hxl] at e5
        repeat' (first
          | apply aw_seq | apply aw_region | apply aw_ret | apply aw_skip | apply aw_exit | apply aw_block | apply es_nil
          | (apply es_pure hT; (iterate 4 exact rfl)) | (apply es_skip; (iterate 3 exact rfl)) | (apply es_skip0; (iterate 2 exact rfl))
          | (apply es_i64 hT; (iterate 4 exact rfl); (iterate 2 omega))
          | (apply aw_draw [] [] hmix; decide +kernel)
          | (apply es_idx hT; (iterate 8 exact rfl); (iterate 2 omega); exact hA2)
          | (apply es_load; (iterate 5 exact rfl); first | exact ld_fld hT rfl rfl (hrc _) Quote.enc_len (adr_add _ _ _) hx2 (f := 5) (by decide) e5 | exact ld_fld hT rfl rfl (hrc _) Quote.enc_len (adr_add _ _ _) hx2 (f := 2) (by decide) rfl | ((first | rw [← e] | skip); exact ld_elem hT rfl rfl (hrc _) Quote.enc_len rfl hx2 rfl))
          | (apply es_alloc hT; (iterate 5 exact rfl); intro g7)
          | (apply es_store hT; (iterate 6 exact rfl); exact sel0; (iterate 3 exact rfl); exact Nat.le_of_ble_eq_true rfl)
          | (apply es_load; (iterate 5 exact rfl); first | exact ld_blk hT rfl rfl mem0 rfl rfl | exact ld_all hT rfl rfl mem0 rfl)
          | (apply es_load; (iterate 5 exact rfl); first | exact ld_blk hT rfl rfl mem1 rfl rfl | exact ld_all hT rfl rfl mem1 rfl)
          | (apply es_load; (iterate 5 exact rfl); first | exact ld_blk hT rfl rfl mem2 rfl rfl | exact ld_all hT rfl rfl mem2 rfl)
          | (apply es_load; (iterate 5 exact rfl); first | exact ld_blk hT rfl rfl mem0 rfl rfl | exact ld_all hT rfl rfl mem0 rfl)
          | (apply es_load; (iterate 5 exact rfl); first | exact ld_blk hT rfl rfl (List.mem_cons_of_mem _ mem0) rfl rfl | exact ld_all hT rfl rfl (List.mem_cons_of_mem _ mem0) rfl)
          | (apply es_load; (iterate 5 exact rfl); first | exact ld_blk hT rfl rfl (List.mem_cons_of_mem _ (List.mem_cons_of_mem _ mem0)) rfl rfl | exact ld_all hT rfl rfl (List.mem_cons_of_mem _ (List.mem_cons_of_mem _ mem0)) rfl)
          | (apply es_load; (iterate 5 exact rfl); first | exact ld_blk hT rfl rfl m1 rfl rfl | exact ld_all hT rfl rfl m1 rfl)
          | (apply es_load; (iterate 5 exact rfl); first | exact ld_blk hT rfl rfl (List.mem_cons_of_mem _ m1) rfl rfl | exact ld_all hT rfl rfl (List.mem_cons_of_mem _ m1) rfl)
          | (apply es_load; (iterate 5 exact rfl); first | exact ld_blk hT rfl rfl (List.mem_cons_of_mem _ (List.mem_cons_of_mem _ m1)) rfl rfl | exact ld_all hT rfl rfl (List.mem_cons_of_mem _ (List.mem_cons_of_mem _ m1)) rfl)
          | (apply es_box; (iterate 5 exact rfl); intro _) | (apply es_alloc hT; (iterate 5 exact rfl); intro _)
          | (apply aw_condT; (iterate 2 exact rfl)) | (apply aw_condF; (iterate 2 exact rfl))
          | (apply es_case; exact rfl; all_goals intro hb; all_goals (try simp only [hb]); all_goals (first | replace hb := of_decide_eq_true hb | replace hb := of_decide_eq_false hb | replace hb := bne_t hb | replace hb := bne_f hb | skip); all_goals (try (exfalso; omega)))
          | (apply aw_cond; exact rfl; all_goals intro hb; all_goals (try simp only [hb]); all_goals (first | replace hb := of_decide_eq_true hb | replace hb := of_decide_eq_false hb | replace hb := bne_t hb | replace hb := bne_f hb | skip); all_goals (try (exfalso; omega))))
      all_goals first
        | (refine loopq_end (k + 1, A7, c7) (by dsimp only; omega) (by dsimp only; omega) ⟨rfl, rfl, by dsimp only; rw [hstep]; rfl, rfl, trivial⟩ ?_
           dsimp only
           rw [hstep]
           first | exact dt_end | exact dt_skip dt_end)
        | (exfalso; simp_all [isLive, isOf]; done)
        | (exfalso; simp_all [isLive, isOf]; omega)
    · have hstep : sortR ((l.take (k + 1)).filter (isOf dealer)) = insR (sortR ((l.take k).filter (isOf dealer))) x := by
        rw [List.take_add_one, hx, List.filter_append, ← sortR_add]; simp [hlv]
      have hxl : x.live = true := by simp only [isLive, isOf, Bool.and_eq_true] at hlv; simp_all
      have e5 : (Quote.enc x)[5]? = some (.bool true) := by rw [← hxl]; rfl
      repeat' (first
        | apply aw_seq | apply aw_region | apply aw_ret | apply aw_skip | apply aw_exit | apply aw_block | apply es_nil
        | (apply es_pure hT; (iterate 4 exact rfl)) | (apply es_skip; (iterate 3 exact rfl)) | (apply es_skip0; (iterate 2 exact rfl))
        | (apply es_i64 hT; (iterate 4 exact rfl); (iterate 2 omega))
        | (apply aw_draw [] [] hmix; decide +kernel)
        | (apply es_idx hT; (iterate 8 exact rfl); (iterate 2 omega); exact hA2)
        | (apply es_load; (iterate 5 exact rfl); first | exact ld_fld hT rfl rfl (hrc _) Quote.enc_len (adr_add _ _ _) hx2 (f := 5) (by decide) e5 | exact ld_fld hT rfl rfl (hrc _) Quote.enc_len (adr_add _ _ _) hx2 (f := 2) (by decide) rfl | exact ld_elem hT rfl rfl (hrc _) Quote.enc_len rfl hx2 rfl)
        | (apply es_alloc hT; (iterate 5 exact rfl); intro g7)
        | (apply es_store hT; (iterate 6 exact rfl); exact sel0; (iterate 3 exact rfl); exact Nat.le_of_ble_eq_true rfl)
        | (apply es_call (hs := (ref17_putO W _ A7 c7 _ x mem0 hf7 (by omega))); (iterate 7 exact rfl); rintro _ _ ⟨A', c', rfl, rfl, hf'⟩)
        | (apply es_load; (iterate 5 exact rfl); first | exact ld_blk hT rfl rfl mem0 rfl rfl | exact ld_all hT rfl rfl mem0 rfl)
        | (apply es_load; (iterate 5 exact rfl); first | exact ld_blk hT rfl rfl mem1 rfl rfl | exact ld_all hT rfl rfl mem1 rfl)
        | (apply es_load; (iterate 5 exact rfl); first | exact ld_blk hT rfl rfl mem2 rfl rfl | exact ld_all hT rfl rfl mem2 rfl)
        | (apply es_load; (iterate 5 exact rfl); first | exact ld_blk hT rfl rfl mem0 rfl rfl | exact ld_all hT rfl rfl mem0 rfl)
        | (apply es_load; (iterate 5 exact rfl); first | exact ld_blk hT rfl rfl (List.mem_cons_of_mem _ mem0) rfl rfl | exact ld_all hT rfl rfl (List.mem_cons_of_mem _ mem0) rfl)
        | (apply es_load; (iterate 5 exact rfl); first | exact ld_blk hT rfl rfl (List.mem_cons_of_mem _ (List.mem_cons_of_mem _ mem0)) rfl rfl | exact ld_all hT rfl rfl (List.mem_cons_of_mem _ (List.mem_cons_of_mem _ mem0)) rfl)
        | (apply es_load; (iterate 5 exact rfl); first | exact ld_blk hT rfl rfl m1 rfl rfl | exact ld_all hT rfl rfl m1 rfl)
        | (apply es_load; (iterate 5 exact rfl); first | exact ld_blk hT rfl rfl (List.mem_cons_of_mem _ m1) rfl rfl | exact ld_all hT rfl rfl (List.mem_cons_of_mem _ m1) rfl)
        | (apply es_load; (iterate 5 exact rfl); first | exact ld_blk hT rfl rfl (List.mem_cons_of_mem _ (List.mem_cons_of_mem _ m1)) rfl rfl | exact ld_all hT rfl rfl (List.mem_cons_of_mem _ (List.mem_cons_of_mem _ m1)) rfl)
        | (apply es_box; (iterate 5 exact rfl); intro _) | (apply es_alloc hT; (iterate 5 exact rfl); intro _)
        | (apply aw_condT; (iterate 2 exact rfl)) | (apply aw_condF; (iterate 2 exact rfl))
        | (apply es_case; exact rfl; all_goals intro hb; all_goals (try simp only [hb]); all_goals (first | replace hb := of_decide_eq_true hb | replace hb := of_decide_eq_false hb | replace hb := bne_t hb | replace hb := bne_f hb | skip); all_goals (try (exfalso; omega)))
        | (apply aw_cond; exact rfl; all_goals intro hb; all_goals (try simp only [hb]); all_goals (first | replace hb := of_decide_eq_true hb | replace hb := of_decide_eq_false hb | replace hb := bne_t hb | replace hb := bne_f hb | skip); all_goals (try (exfalso; omega))))
      all_goals first
        | (refine loopq_end (k + 1, A', c') (by dsimp only; omega) (by dsimp only; omega) ⟨rfl, rfl, by dsimp only; rw [hstep]; rfl, rfl, trivial⟩ ?_
           dsimp only
           rw [hstep]
           apply dt_cons; (first | exact sel0 | exact sel1 | exact selS sel1 | exact selS (selS sel1) | exact selS (selS (selS sel1)) | exact selS (selS (selS (selS sel1))) | exact selS (selS (selS (selS (selS sel1)))) | exact selS (selS (selS (selS (selS (selS sel1))))))
           (repeat (first | exact dt_end | apply dt_skip)))
        | (exfalso; simp_all [isLive, isOf]; done)
        | (exfalso; simp_all [isLive, isOf]; omega)
  · obtain rfl : k = l.length := by omega
    have hd1 : decide ((l.length : Int) < (l.length : Int)) = false := by simp
    rw [List.take_length] at hf7 ⊢
    repeat' (first
      | apply aw_seq | apply aw_region | apply aw_ret | apply aw_skip | apply aw_exit | apply aw_block | apply es_nil
      | (apply es_pure hT; (iterate 4 exact rfl)) | (apply es_skip; (iterate 3 exact rfl)) | (apply es_skip0; (iterate 2 exact rfl))
      | (apply es_i64 hT; (iterate 4 exact rfl); (iterate 2 omega))
      | (apply aw_draw [] [] hmix; decide +kernel)
      | (apply es_load; (iterate 5 exact rfl); first | exact ld_blk hT rfl rfl mem0 rfl rfl | exact ld_all hT rfl rfl mem0 rfl)
      | (apply es_load; (iterate 5 exact rfl); first | exact ld_blk hT rfl rfl mem1 rfl rfl | exact ld_all hT rfl rfl mem1 rfl)
      | (apply es_load; (iterate 5 exact rfl); first | exact ld_blk hT rfl rfl mem2 rfl rfl | exact ld_all hT rfl rfl mem2 rfl)
      | (apply es_load; (iterate 5 exact rfl); first | exact ld_blk hT rfl rfl m1 rfl rfl | exact ld_all hT rfl rfl m1 rfl)
      | (apply es_load; (iterate 5 exact rfl); first | exact ld_blk hT rfl rfl (List.mem_cons_of_mem _ m1) rfl rfl | exact ld_all hT rfl rfl (List.mem_cons_of_mem _ m1) rfl)
      | (apply es_box; (iterate 5 exact rfl); intro _) | (apply es_alloc hT; (iterate 5 exact rfl); intro _)
      | (apply aw_condT; (iterate 2 exact rfl)) | (apply aw_condF; (iterate 2 exact rfl))
      | (apply es_case; exact rfl; all_goals intro hb; all_goals (try simp only [hb]); all_goals (first | replace hb := of_decide_eq_true hb | replace hb := of_decide_eq_false hb | replace hb := bne_t hb | replace hb := bne_f hb | skip); all_goals (try (exfalso; omega)))
      | (apply aw_cond; exact rfl; all_goals intro hb; all_goals (try simp only [hb]); all_goals (first | replace hb := of_decide_eq_true hb | replace hb := of_decide_eq_false hb | replace hb := bne_t hb | replace hb := bne_f hb | skip); all_goals (try (exfalso; omega))))
    apply ret1; exact rfl
    exact ⟨_, dt_end, fun w hw => ⟨A7, c7, rfl, rfl, hf7⟩⟩
end Go.Proofs.Ytmoglacdddinjaa
