/- Contracts of package cross and of the document's answer (consolsref15), more: may an order come? Conditions stand in each statement. -/
import Derived.Test.YtiefkpfamkkapaaCross2
set_option linter.unusedSimpArgs false
set_option linter.unusedVariables false
namespace Go.Proofs.Ytiefkpfamkkapaa
open Go Go.Sl
attribute [local irreducible] AW ES EP Ld RetQ
set_option maxRecDepth 100000

theorem cross_isNew1 (W : World) (o x : Order) (g1 : Nat) : QSpec Try.prog W 124 [.agg x.enc.toArray, .pointer (some ⟨g1, 0, none⟩)] [.blk g1 29 o.enc] (.bool (clashO o x)) := by
  refine QSpec.ofD (fun h' hs => ?_)
  have m1 := hs _ mem0
  refine spec_body Try.func124 rfl rfl Try.results124 Try.ntmps124 rfl rfl ?_
  repeat' (first
    | apply aw_seq | apply aw_region | apply aw_ret | apply aw_skip | apply aw_exit | apply aw_block | apply es_nil
    | (apply es_pure hT; (iterate 4 exact rfl)) | (apply es_skip; (iterate 3 exact rfl)) | (apply es_skip0; (iterate 2 exact rfl))
    | (apply es_i64 hT; (iterate 4 exact rfl); (iterate 2 omega))
    | (apply aw_draw [] [] hmix; decide +kernel)
    | (apply es_load; (iterate 5 exact rfl); first | (apply ld_blk hT; exact rfl; exact rfl; (repeat (first | exact List.mem_cons_self | exact m1 | apply List.mem_cons_of_mem)); exact rfl; exact rfl) | (apply ld_all hT; exact rfl; exact rfl; (repeat (first | exact List.mem_cons_self | exact m1 | apply List.mem_cons_of_mem)); exact rfl))
    | (apply es_box; (iterate 5 exact rfl); intro _) | (apply es_alloc hT; (iterate 5 exact rfl); intro _)
    | (apply aw_condT; (iterate 2 exact rfl)) | (apply aw_condF; (iterate 2 exact rfl))
    | (apply es_case; exact rfl; all_goals intro hb; all_goals (try simp only [hb]); all_goals (first | replace hb := of_decide_eq_true hb | replace hb := of_decide_eq_false hb | replace hb := bne_t hb | replace hb := bne_f hb | skip); all_goals (try (exfalso; omega)))
    | (apply aw_cond; exact rfl; all_goals intro hb; all_goals (try simp only [hb]); all_goals (first | replace hb := of_decide_eq_true hb | replace hb := of_decide_eq_false hb | replace hb := bne_t hb | replace hb := bne_f hb | skip); all_goals (try (exfalso; omega))))
  all_goals
    apply ret1; exact rfl
    refine ⟨?_, by (repeat (first | exact dt_end | apply dt_skip))⟩
    simp [clashO, *]
theorem cross_stays (W : World) (how : Int) : QSpec Try.prog W 95 [.int .i64 how] [] (.bool (staysB how)) := by
  refine QSpec.ofD (fun h' hs => ?_)
  refine spec_body Try.func95 rfl rfl Try.results95 Try.ntmps95 rfl rfl ?_
  repeat' (first
    | apply aw_seq | apply aw_region | apply aw_ret | apply aw_skip | apply aw_exit | apply aw_block | apply es_nil
    | (apply es_pure hT; (iterate 4 exact rfl)) | (apply es_skip; (iterate 3 exact rfl)) | (apply es_skip0; (iterate 2 exact rfl))
    | (apply es_i64 hT; (iterate 4 exact rfl); (iterate 2 omega))
    | (apply aw_draw [] [] hmix; decide +kernel)
    | (apply es_load; (iterate 5 exact rfl); first | (apply ld_blk hT; exact rfl; exact rfl; (repeat (first | exact List.mem_cons_self | apply List.mem_cons_of_mem)); exact rfl; exact rfl) | (apply ld_all hT; exact rfl; exact rfl; (repeat (first | exact List.mem_cons_self | apply List.mem_cons_of_mem)); exact rfl))
    | (apply es_box; (iterate 5 exact rfl); intro _) | (apply es_alloc hT; (iterate 5 exact rfl); intro _)
    | (apply aw_condT; (iterate 2 exact rfl)) | (apply aw_condF; (iterate 2 exact rfl))
    | (apply es_case; exact rfl; all_goals intro hb; all_goals (try simp only [hb]); all_goals (first | replace hb := of_decide_eq_true hb | replace hb := of_decide_eq_false hb | replace hb := bne_t hb | replace hb := bne_f hb | skip); all_goals (try (exfalso; omega)))
    | (apply aw_cond; exact rfl; all_goals intro hb; all_goals (try simp only [hb]); all_goals (first | replace hb := of_decide_eq_true hb | replace hb := of_decide_eq_false hb | replace hb := bne_t hb | replace hb := bne_f hb | skip); all_goals (try (exfalso; omega))))
  all_goals
    apply ret1; exact rfl
    refine ⟨?_, by (repeat (first | exact dt_end | apply dt_skip))⟩
    simp [staysB, *]
theorem clash_side {o : Order} {l : List Order} (hB : BookB l) : idxOf (clashO o) l < 0 ↔ idxOf (clashO o) (sideO 1 l) < 0 ∧ idxOf (clashO o) (sideO 2 l) < 0 := by
  rw [idxOf_neg', idxOf_neg', idxOf_neg']
  refine ⟨fun h => ⟨fun x hx => h x (sideO_side hx).1, fun x hx => h x (sideO_side hx).1⟩, fun ⟨h1, h2⟩ x hx => ?_⟩
  have hm : ∀ s, x.side = s → x ∈ sideO s l := fun s e => (sideO_perm s l).mem_iff.2 (List.mem_filter.2 ⟨hx, by simp [isSide, e]⟩)
  rcases isB_two (hB.side x hx) with e | e
  · exact h1 x (hm 1 e)
  · exact h2 x (hm 2 e)
theorem clash_as (how : Int) (o : Order) : clashO (asX how o) = clashO o := by
  funext x; unfold clashO asX; split <;> rfl
theorem addOE_nil (o : Order) : addOE o [] = if okO o then 0 else 1 := by
  unfold addOE
  cases h : okO o <;> simp [idxOf]
set_option maxHeartbeats 2000000 in
theorem cross_isNew (W : World) (p : Nat) (A : Option Addr) (c : Nat) (l : List Order) (o : Order) (how : Int) (hB : BookB l) :
    QSpec Try.prog W 110 [.pointer (some ⟨p, 0, none⟩), .agg o.enc.toArray, .int .i64 how] (bookTab p A c l []) (.bool (newB how o l)) := by
  refine QSpec.ofD (fun h' hs => ?_)
  have m1 := hs _ mem0
  have m2 := hs _ mem1
  refine spec_body Try.func110 rfl rfl Try.results110 Try.ntmps110 rfl rfl ?_
  by_cases h1 : how < 0 ∨ how > 4
  · have hv : newB how o l = false := by
      unfold newB
      rcases h1 with h | h
      · rw [show decide (0 ≤ how) = false by simp; omega]; rfl
      · rw [show decide (how ≤ 4) = false by simp; omega]; simp
    rw [hv]
    repeat' (first
      | apply aw_seq | apply aw_region | apply aw_ret | apply aw_skip | apply aw_exit | apply aw_block | apply es_nil
      | (apply es_pure hT; (iterate 4 exact rfl)) | (apply es_skip; (iterate 3 exact rfl)) | (apply es_skip0; (iterate 2 exact rfl))
      | (apply es_i64 hT; (iterate 4 exact rfl); (iterate 2 omega))
      | (apply aw_draw [] [] hmix; decide +kernel)
      | (apply es_load; (iterate 5 exact rfl); first | (apply ld_blk hT; exact rfl; exact rfl; (repeat (first | exact List.mem_cons_self | apply List.mem_cons_of_mem)); exact rfl; exact rfl) | (apply ld_all hT; exact rfl; exact rfl; (repeat (first | exact List.mem_cons_self | apply List.mem_cons_of_mem)); exact rfl))
      | (apply es_box; (iterate 5 exact rfl); intro _) | (apply es_alloc hT; (iterate 5 exact rfl); intro _)
      | (apply aw_condT; (iterate 2 exact rfl)) | (apply aw_condF; (iterate 2 exact rfl))
      | (apply es_case; exact rfl; all_goals intro hb; all_goals (try simp only [hb]); all_goals (first | replace hb := of_decide_eq_true hb | replace hb := of_decide_eq_false hb | replace hb := bne_t hb | replace hb := bne_f hb | skip); all_goals (try (exfalso; omega)))
      | (apply aw_cond; exact rfl; all_goals intro hb; all_goals (try simp only [hb]); all_goals (first | replace hb := of_decide_eq_true hb | replace hb := of_decide_eq_false hb | replace hb := bne_t hb | replace hb := bne_f hb | skip); all_goals (try (exfalso; omega))))
    all_goals first
      | (exfalso; omega)
      | (apply ret1; exact rfl; exact ⟨rfl, by (repeat (first | exact dt_end | (apply dt_cons; · (repeat (first | exact sel0 | apply selS))) | apply dt_skip))⟩)
  by_cases h2 : how = 4 ∧ o.price ≠ 0
  · have hv : newB how o l = false := by
      unfold newB
      have e : (!(how == 4 && !(o.price == 0))) = false := by simp [h2.1, h2.2]
      rw [e]; simp
    rw [hv]
    repeat' (first
      | apply aw_seq | apply aw_region | apply aw_ret | apply aw_skip | apply aw_exit | apply aw_block | apply es_nil
      | (apply es_pure hT; (iterate 4 exact rfl)) | (apply es_skip; (iterate 3 exact rfl)) | (apply es_skip0; (iterate 2 exact rfl))
      | (apply es_i64 hT; (iterate 4 exact rfl); (iterate 2 omega))
      | (apply aw_draw [] [] hmix; decide +kernel)
      | (apply es_load; (iterate 5 exact rfl); first | (apply ld_blk hT; exact rfl; exact rfl; (repeat (first | exact List.mem_cons_self | apply List.mem_cons_of_mem)); exact rfl; exact rfl) | (apply ld_all hT; exact rfl; exact rfl; (repeat (first | exact List.mem_cons_self | apply List.mem_cons_of_mem)); exact rfl))
      | (apply es_box; (iterate 5 exact rfl); intro _) | (apply es_alloc hT; (iterate 5 exact rfl); intro _)
      | (apply aw_condT; (iterate 2 exact rfl)) | (apply aw_condF; (iterate 2 exact rfl))
      | (apply es_case; exact rfl; all_goals intro hb; all_goals (try simp only [hb]); all_goals (first | replace hb := of_decide_eq_true hb | replace hb := of_decide_eq_false hb | replace hb := bne_t hb | replace hb := bne_f hb | skip); all_goals (try (exfalso; omega)))
      | (apply aw_cond; exact rfl; all_goals intro hb; all_goals (try simp only [hb]); all_goals (first | replace hb := of_decide_eq_true hb | replace hb := of_decide_eq_false hb | replace hb := bne_t hb | replace hb := bne_f hb | skip); all_goals (try (exfalso; omega))))
    all_goals first
      | (exfalso; omega)
      | (apply ret1; exact rfl; exact ⟨rfl, by (repeat (first | exact dt_end | (apply dt_cons; · (repeat (first | exact sel0 | apply selS))) | apply dt_skip))⟩)
  have hv : newB how o l = (okO (asX how o) && decide (idxOf (clashO (asX how o)) l < 0)) := by
    unfold newB
    rw [show decide (0 ≤ how) = true by simp; omega, show decide (how ≤ 4) = true by simp; omega, show (!(how == 4 && !(o.price == 0))) = true by simp; omega, clash_as]
    simp
  rw [hv]
  have hS := fun s h m1 m2 => book_Side W h p A c l s m1 m2 hB.le hB.seq hB.side
  have hs1 := sideO_len 1 l
  have hs2 := sideO_len 2 l
  have hbl := hB.len
  have hcl := clash_side (o := asX how o) hB
  have hct : ∀ (o' : Order) (s : Int) h g1 A2 c2, (sideO s l).length ≤ 1000000 → OwnF A2 (sideO s l).length c2 6 ((sideO s l).flatMap Order.enc) → Chunk.own A2 (sideO s l).length c2 29 6 ((sideO s l).flatMap Order.enc) ∈ h → Chunk.blk g1 29 o'.enc ∈ h → QSpec Try.prog W 77 [.slice A2 (sideO s l).length c2, .func (.func 124) #[] #[.pointer (some ⟨g1, 0, none⟩)]] h (.bool (decide (idxOf (clashO o') (sideO s l) ≥ 0))) := fun o' s h g1 A2 c2 hle hf n1 n2 =>
    containsFuncOrder W h A2 _ c2 (sideO s l) rfl (hf.reads n1) _ [_] (clashO o') (fun x _ => (cross_isNew1 W o' x g1).mono (keep1 n2)) (by omega)
  have hadd := fun p A c h => book_Add W h p A c [] (asX how o) (by simp)
  rw [addOE_nil] at hadd
  by_cases h4 : how = 4
  · have has : asX how o = { o with price := 1 } := by unfold asX; rw [if_pos h4]
    rw [has] at hcl hadd ⊢
    repeat' (first
      | apply aw_seq | apply aw_region | apply aw_ret | apply aw_skip | apply aw_exit | apply aw_block | apply es_nil
      | (apply es_pure hT; (iterate 4 exact rfl)) | (apply es_skip; (iterate 3 exact rfl)) | (apply es_skip0; (iterate 2 exact rfl))
      | (apply es_i64 hT; (iterate 4 exact rfl); (iterate 2 omega))
      | (apply aw_draw [] [] hmix; decide +kernel)
      | (apply es_box; (iterate 5 exact rfl); intro g4)
      | (apply es_store hT; (iterate 6 exact rfl); (repeat (first | exact sel0 | apply selS)); (iterate 3 exact rfl); exact Nat.le_of_ble_eq_true rfl)
      | (apply es_buildSlice hT; (iterate 12 exact rfl); intro g25)
      | (apply es_load; (iterate 5 exact rfl); first | (apply ld_blk hT; exact rfl; exact rfl; (repeat (first | exact List.mem_cons_self | apply List.mem_cons_of_mem)); exact rfl; exact rfl) | (apply ld_all hT; exact rfl; exact rfl; (repeat (first | exact List.mem_cons_self | apply List.mem_cons_of_mem)); exact rfl))
      | (apply es_box; (iterate 5 exact rfl); intro _) | (apply es_alloc hT; (iterate 5 exact rfl); intro _)
      | (apply aw_condT; (iterate 2 exact rfl)) | (apply aw_condF; (iterate 2 exact rfl))
      | (apply es_case; exact rfl; all_goals intro hb; all_goals (try simp only [hb]); all_goals (first | replace hb := of_decide_eq_true hb | replace hb := of_decide_eq_false hb | replace hb := bne_t hb | replace hb := bne_f hb | skip); all_goals (try (exfalso; omega)))
      | (apply aw_cond; exact rfl; all_goals intro hb; all_goals (try simp only [hb]); all_goals (first | replace hb := of_decide_eq_true hb | replace hb := of_decide_eq_false hb | replace hb := bne_t hb | replace hb := bne_f hb | skip); all_goals (try (exfalso; omega))))
    all_goals try (exfalso; omega)
    refine aw_loopD (α := Nat) (E := fun k => [(0, .pointer (some ⟨p, 0, none⟩)), (4, .pointer (some ⟨g4, 0, none⟩)), (25, .slice (some ⟨g25, 0, none⟩) 2 2), (26, .int .i64 2), (27, .int .i64 k)])
      (H := fun k => .own (some ⟨g25, 0, none⟩) 2 2 3 1 [.int .i64 1, .int .i64 2] :: .blk g4 29 (Order.enc { o with price := 1 }) :: h') (μ := fun k => 2 - k)
      (S := fun k => k ≤ 2 ∧ (1 ≤ k → idxOf (clashO { o with price := 1 }) (sideO 1 l) < 0) ∧ (2 ≤ k → idxOf (clashO { o with price := 1 }) (sideO 2 l) < 0)) 0 ⟨by omega, fun h => by omega, fun h => by omega⟩ ⟨rfl, rfl, rfl, rfl, rfl, trivial⟩ (by (repeat (first | exact dt_end | (apply dt_cons; · (repeat (first | exact sel0 | apply selS))) | apply dt_skip))) ?_
    rintro k ⟨hk, hk1, hk2⟩
    have hrd : Reads W (.own (some ⟨g25, 0, none⟩) 2 2 3 1 [.int .i64 1, .int .i64 2] :: .blk g4 29 (Order.enc { o with price := 1 }) :: h') (some ⟨g25, 0, none⟩) 2 1 [.int .i64 1, .int .i64 2] := Reads.own mem0 rfl (List.all_eq_true.1 (rfl : ([.int .i64 1, .int .i64 2] : List Value).all Value.oneCell' = true))
    rcases (show k = 0 ∨ k = 1 ∨ k = 2 by omega) with rfl | rfl | rfl
    · have hd1 : decide (((0 : Nat) : Int) < 2) = true := by decide
      have hx2 : ([.int .i64 1, .int .i64 2] : List Value)[((0 : Nat) : Int).toNat * 1]? = some (.int .i64 1) := rfl
      rcases Int.lt_or_le (idxOf (clashO { o with price := 1 }) (sideO 1 l)) 0 with hn | hn
      · have hct1 := hct { o with price := 1 } 1
        rw [show decide (idxOf (clashO { o with price := 1 }) (sideO 1 l) ≥ 0) = false by simp; omega] at hct1
        repeat' (first
          | apply aw_seq | apply aw_region | apply aw_ret | apply aw_skip | apply aw_exit | apply aw_block | apply es_nil
          | (apply es_pure hT; (iterate 4 exact rfl)) | (apply es_skip; (iterate 3 exact rfl)) | (apply es_skip0; (iterate 2 exact rfl))
          | (apply es_i64 hT; (iterate 4 exact rfl); (iterate 2 omega))
          | (apply aw_draw [] [] hmix; decide +kernel)
          | (apply es_idx hT; (iterate 8 exact rfl); (iterate 2 omega); exact rfl)
          | (apply es_load; (iterate 5 exact rfl); exact ld_row hT rfl rfl hrd rfl hx2)
          | (apply es_call (hs := (hS 1 _ (.tail _ (.tail _ m1)) (.tail _ (.tail _ m2)))); (iterate 7 exact rfl); rintro _ _ ⟨AS, cS, rfl, rfl, hfS⟩)
          | (apply es_callQ (hs := (hct1 _ _ _ _ (by omega) hfS (by (repeat (first | exact List.mem_cons_self | apply List.mem_cons_of_mem))) (by (repeat (first | exact List.mem_cons_self | apply List.mem_cons_of_mem))))); (iterate 7 exact rfl))
          | (apply es_load; (iterate 5 exact rfl); first | (apply ld_blk hT; exact rfl; exact rfl; (repeat (first | exact List.mem_cons_self | apply List.mem_cons_of_mem)); exact rfl; exact rfl) | (apply ld_all hT; exact rfl; exact rfl; (repeat (first | exact List.mem_cons_self | apply List.mem_cons_of_mem)); exact rfl))
          | (apply es_box; (iterate 5 exact rfl); intro _) | (apply es_alloc hT; (iterate 5 exact rfl); intro _)
          | (apply aw_condT; (iterate 2 exact rfl)) | (apply aw_condF; (iterate 2 exact rfl))
          | (apply es_case; exact rfl; all_goals intro hb; all_goals (try simp only [hb]); all_goals (first | replace hb := of_decide_eq_true hb | replace hb := of_decide_eq_false hb | replace hb := bne_t hb | replace hb := bne_f hb | skip); all_goals (try (exfalso; omega)))
          | (apply aw_cond; exact rfl; all_goals intro hb; all_goals (try simp only [hb]); all_goals (first | replace hb := of_decide_eq_true hb | replace hb := of_decide_eq_false hb | replace hb := bne_t hb | replace hb := bne_f hb | skip); all_goals (try (exfalso; omega))))
        all_goals first
          | (exfalso; omega)
          | exact loopq_end 1 (by decide) ⟨by omega, fun _ => hn, fun h => absurd h (by decide)⟩ ⟨rfl, rfl, rfl, rfl, rfl, trivial⟩ (by (repeat (first | exact dt_end | (apply dt_cons; · (repeat (first | exact sel0 | apply selS))) | apply dt_skip)))
          | (apply blockq_n; exact loopq_end 1 (by decide) ⟨by omega, fun _ => hn, fun h => absurd h (by decide)⟩ ⟨rfl, rfl, rfl, rfl, rfl, trivial⟩ (by (repeat (first | exact dt_end | (apply dt_cons; · (repeat (first | exact sel0 | apply selS))) | apply dt_skip))))
          | skip
      · have hct1 := hct { o with price := 1 } 1
        rw [show decide (idxOf (clashO { o with price := 1 }) (sideO 1 l) ≥ 0) = true by simp; omega] at hct1
        repeat' (first
          | apply aw_seq | apply aw_region | apply aw_ret | apply aw_skip | apply aw_exit | apply aw_block | apply es_nil
          | (apply es_pure hT; (iterate 4 exact rfl)) | (apply es_skip; (iterate 3 exact rfl)) | (apply es_skip0; (iterate 2 exact rfl))
          | (apply es_i64 hT; (iterate 4 exact rfl); (iterate 2 omega))
          | (apply aw_draw [] [] hmix; decide +kernel)
          | (apply es_idx hT; (iterate 8 exact rfl); (iterate 2 omega); exact rfl)
          | (apply es_load; (iterate 5 exact rfl); exact ld_row hT rfl rfl hrd rfl hx2)
          | (apply es_call (hs := (hS 1 _ (.tail _ (.tail _ m1)) (.tail _ (.tail _ m2)))); (iterate 7 exact rfl); rintro _ _ ⟨AS, cS, rfl, rfl, hfS⟩)
          | (apply es_callQ (hs := (hct1 _ _ _ _ (by omega) hfS (by (repeat (first | exact List.mem_cons_self | apply List.mem_cons_of_mem))) (by (repeat (first | exact List.mem_cons_self | apply List.mem_cons_of_mem))))); (iterate 7 exact rfl))
          | (apply es_load; (iterate 5 exact rfl); first | (apply ld_blk hT; exact rfl; exact rfl; (repeat (first | exact List.mem_cons_self | apply List.mem_cons_of_mem)); exact rfl; exact rfl) | (apply ld_all hT; exact rfl; exact rfl; (repeat (first | exact List.mem_cons_self | apply List.mem_cons_of_mem)); exact rfl))
          | (apply es_box; (iterate 5 exact rfl); intro _) | (apply es_alloc hT; (iterate 5 exact rfl); intro _)
          | (apply aw_condT; (iterate 2 exact rfl)) | (apply aw_condF; (iterate 2 exact rfl))
          | (apply es_case; exact rfl; all_goals intro hb; all_goals (try simp only [hb]); all_goals (first | replace hb := of_decide_eq_true hb | replace hb := of_decide_eq_false hb | replace hb := bne_t hb | replace hb := bne_f hb | skip); all_goals (try (exfalso; omega)))
          | (apply aw_cond; exact rfl; all_goals intro hb; all_goals (try simp only [hb]); all_goals (first | replace hb := of_decide_eq_true hb | replace hb := of_decide_eq_false hb | replace hb := bne_t hb | replace hb := bne_f hb | skip); all_goals (try (exfalso; omega))))
        all_goals first
          | (exfalso; omega)
          | (apply ret1; exact rfl
             refine ⟨?_, by (repeat (first | exact dt_end | (apply dt_cons; · (repeat (first | exact sel0 | apply selS))) | apply dt_skip))⟩
             rw [show decide (idxOf (clashO { o with price := 1 }) l < 0) = false by rw [decide_eq_false_iff_not, hcl]; omega, Bool.and_false])
          | skip
    · have hd1 : decide (((1 : Nat) : Int) < 2) = true := by decide
      have hx2 : ([.int .i64 1, .int .i64 2] : List Value)[((1 : Nat) : Int).toNat * 1]? = some (.int .i64 2) := rfl
      rcases Int.lt_or_le (idxOf (clashO { o with price := 1 }) (sideO 2 l)) 0 with hn | hn
      · have hct1 := hct { o with price := 1 } 2
        rw [show decide (idxOf (clashO { o with price := 1 }) (sideO 2 l) ≥ 0) = false by simp; omega] at hct1
        repeat' (first
          | apply aw_seq | apply aw_region | apply aw_ret | apply aw_skip | apply aw_exit | apply aw_block | apply es_nil
          | (apply es_pure hT; (iterate 4 exact rfl)) | (apply es_skip; (iterate 3 exact rfl)) | (apply es_skip0; (iterate 2 exact rfl))
          | (apply es_i64 hT; (iterate 4 exact rfl); (iterate 2 omega))
          | (apply aw_draw [] [] hmix; decide +kernel)
          | (apply es_idx hT; (iterate 8 exact rfl); (iterate 2 omega); exact rfl)
          | (apply es_load; (iterate 5 exact rfl); exact ld_row hT rfl rfl hrd rfl hx2)
          | (apply es_call (hs := (hS 2 _ (.tail _ (.tail _ m1)) (.tail _ (.tail _ m2)))); (iterate 7 exact rfl); rintro _ _ ⟨AS, cS, rfl, rfl, hfS⟩)
          | (apply es_callQ (hs := (hct1 _ _ _ _ (by omega) hfS (by (repeat (first | exact List.mem_cons_self | apply List.mem_cons_of_mem))) (by (repeat (first | exact List.mem_cons_self | apply List.mem_cons_of_mem))))); (iterate 7 exact rfl))
          | (apply es_load; (iterate 5 exact rfl); first | (apply ld_blk hT; exact rfl; exact rfl; (repeat (first | exact List.mem_cons_self | apply List.mem_cons_of_mem)); exact rfl; exact rfl) | (apply ld_all hT; exact rfl; exact rfl; (repeat (first | exact List.mem_cons_self | apply List.mem_cons_of_mem)); exact rfl))
          | (apply es_box; (iterate 5 exact rfl); intro _) | (apply es_alloc hT; (iterate 5 exact rfl); intro _)
          | (apply aw_condT; (iterate 2 exact rfl)) | (apply aw_condF; (iterate 2 exact rfl))
          | (apply es_case; exact rfl; all_goals intro hb; all_goals (try simp only [hb]); all_goals (first | replace hb := of_decide_eq_true hb | replace hb := of_decide_eq_false hb | replace hb := bne_t hb | replace hb := bne_f hb | skip); all_goals (try (exfalso; omega)))
          | (apply aw_cond; exact rfl; all_goals intro hb; all_goals (try simp only [hb]); all_goals (first | replace hb := of_decide_eq_true hb | replace hb := of_decide_eq_false hb | replace hb := bne_t hb | replace hb := bne_f hb | skip); all_goals (try (exfalso; omega))))
        all_goals first
          | (exfalso; omega)
          | exact loopq_end 2 (by decide) ⟨by omega, fun _ => hk1 (by decide), fun _ => hn⟩ ⟨rfl, rfl, rfl, rfl, rfl, trivial⟩ (by (repeat (first | exact dt_end | (apply dt_cons; · (repeat (first | exact sel0 | apply selS))) | apply dt_skip)))
          | (apply blockq_n; exact loopq_end 2 (by decide) ⟨by omega, fun _ => hk1 (by decide), fun _ => hn⟩ ⟨rfl, rfl, rfl, rfl, rfl, trivial⟩ (by (repeat (first | exact dt_end | (apply dt_cons; · (repeat (first | exact sel0 | apply selS))) | apply dt_skip))))
          | skip
      · have hct1 := hct { o with price := 1 } 2
        rw [show decide (idxOf (clashO { o with price := 1 }) (sideO 2 l) ≥ 0) = true by simp; omega] at hct1
        repeat' (first
          | apply aw_seq | apply aw_region | apply aw_ret | apply aw_skip | apply aw_exit | apply aw_block | apply es_nil
          | (apply es_pure hT; (iterate 4 exact rfl)) | (apply es_skip; (iterate 3 exact rfl)) | (apply es_skip0; (iterate 2 exact rfl))
          | (apply es_i64 hT; (iterate 4 exact rfl); (iterate 2 omega))
          | (apply aw_draw [] [] hmix; decide +kernel)
          | (apply es_idx hT; (iterate 8 exact rfl); (iterate 2 omega); exact rfl)
          | (apply es_load; (iterate 5 exact rfl); exact ld_row hT rfl rfl hrd rfl hx2)
          | (apply es_call (hs := (hS 2 _ (.tail _ (.tail _ m1)) (.tail _ (.tail _ m2)))); (iterate 7 exact rfl); rintro _ _ ⟨AS, cS, rfl, rfl, hfS⟩)
          | (apply es_callQ (hs := (hct1 _ _ _ _ (by omega) hfS (by (repeat (first | exact List.mem_cons_self | apply List.mem_cons_of_mem))) (by (repeat (first | exact List.mem_cons_self | apply List.mem_cons_of_mem))))); (iterate 7 exact rfl))
          | (apply es_load; (iterate 5 exact rfl); first | (apply ld_blk hT; exact rfl; exact rfl; (repeat (first | exact List.mem_cons_self | apply List.mem_cons_of_mem)); exact rfl; exact rfl) | (apply ld_all hT; exact rfl; exact rfl; (repeat (first | exact List.mem_cons_self | apply List.mem_cons_of_mem)); exact rfl))
          | (apply es_box; (iterate 5 exact rfl); intro _) | (apply es_alloc hT; (iterate 5 exact rfl); intro _)
          | (apply aw_condT; (iterate 2 exact rfl)) | (apply aw_condF; (iterate 2 exact rfl))
          | (apply es_case; exact rfl; all_goals intro hb; all_goals (try simp only [hb]); all_goals (first | replace hb := of_decide_eq_true hb | replace hb := of_decide_eq_false hb | replace hb := bne_t hb | replace hb := bne_f hb | skip); all_goals (try (exfalso; omega)))
          | (apply aw_cond; exact rfl; all_goals intro hb; all_goals (try simp only [hb]); all_goals (first | replace hb := of_decide_eq_true hb | replace hb := of_decide_eq_false hb | replace hb := bne_t hb | replace hb := bne_f hb | skip); all_goals (try (exfalso; omega))))
        all_goals first
          | (exfalso; omega)
          | (apply ret1; exact rfl
             refine ⟨?_, by (repeat (first | exact dt_end | (apply dt_cons; · (repeat (first | exact sel0 | apply selS))) | apply dt_skip))⟩
             rw [show decide (idxOf (clashO { o with price := 1 }) l < 0) = false by rw [decide_eq_false_iff_not, hcl]; omega, Bool.and_false])
          | skip
    · have hd1 : decide (((2 : Nat) : Int) < 2) = false := by decide
      have hall := hcl.2 ⟨hk1 (by decide), hk2 (by decide)⟩
      rw [decide_eq_true hall, Bool.and_true]
      cases hok : okO { o with price := 1 }
      · rw [hok] at hadd
        repeat' (first
          | apply aw_seq | apply aw_region | apply aw_ret | apply aw_skip | apply aw_exit | apply aw_block | apply es_nil
          | (apply es_pure hT; (iterate 4 exact rfl)) | (apply es_skip; (iterate 3 exact rfl)) | (apply es_skip0; (iterate 2 exact rfl))
          | (apply es_i64 hT; (iterate 4 exact rfl); (iterate 2 omega))
          | (apply aw_draw [] [] hmix; decide +kernel)
          | (apply aw_treeH [.blk g4 29 (Order.enc { o with price := 1 })] [] [26, 27] (.step 1 <| .step 0 <| .step 2 <| .step 3 <| .step 4 <| .nil) hmix; decide +kernel) | apply ep_nil | apply ep_alt | (apply ep_step; exact rfl)
          | (apply es_callG (hs := (book_New W _)); (iterate 7 exact rfl); (rintro _ _ ⟨pn, An, cn, rfl, rfl⟩; refine ⟨by (apply keep1; (repeat (first | exact List.mem_cons_self | apply List.mem_cons_of_mem))), ?_⟩))
          | (apply es_callG (hs := (hadd _ _ _ _)); (iterate 7 exact rfl); (rintro _ _ ⟨rfl, An2, cn2, rfl⟩; refine ⟨by (apply keep1; (repeat (first | exact List.mem_cons_self | apply List.mem_cons_of_mem))), ?_⟩))
          | ((first | (apply es_load; (iterate 5 exact rfl)) | (apply es_loadL; (iterate 5 exact rfl); first | exact fun _ h => h | (apply keep1; (repeat (first | exact List.mem_cons_self | apply List.mem_cons_of_mem))))); first | (apply ld_blk hT; exact rfl; exact rfl; (repeat (first | exact List.mem_cons_self | apply List.mem_cons_of_mem)); exact rfl; exact rfl) | (apply ld_all hT; exact rfl; exact rfl; (repeat (first | exact List.mem_cons_self | apply List.mem_cons_of_mem)); exact rfl))
          | (apply es_box; (iterate 5 exact rfl); intro _) | (apply es_alloc hT; (iterate 5 exact rfl); intro _)
          | (apply aw_condT; (iterate 2 exact rfl)) | (apply aw_condF; (iterate 2 exact rfl))
          | (apply es_case; exact rfl; all_goals intro hb; all_goals (try simp only [hb]); all_goals (first | replace hb := of_decide_eq_true hb | replace hb := of_decide_eq_false hb | replace hb := bne_t hb | replace hb := bne_f hb | skip); all_goals (try (exfalso; omega)))
          | (apply aw_cond; exact rfl; all_goals intro hb; all_goals (try simp only [hb]); all_goals (first | replace hb := of_decide_eq_true hb | replace hb := of_decide_eq_false hb | replace hb := bne_t hb | replace hb := bne_f hb | skip); all_goals (try (exfalso; omega))))
        all_goals first
          | (exfalso; omega)
          | (apply ret1; exact rfl; exact ⟨rfl, by (repeat (first | exact dt_end | (apply dt_cons; · (repeat (first | exact sel0 | apply selS))) | apply dt_skip))⟩)
          | skip
      · rw [hok] at hadd
        repeat' (first
          | apply aw_seq | apply aw_region | apply aw_ret | apply aw_skip | apply aw_exit | apply aw_block | apply es_nil
          | (apply es_pure hT; (iterate 4 exact rfl)) | (apply es_skip; (iterate 3 exact rfl)) | (apply es_skip0; (iterate 2 exact rfl))
          | (apply es_i64 hT; (iterate 4 exact rfl); (iterate 2 omega))
          | (apply aw_draw [] [] hmix; decide +kernel)
          | (apply aw_treeH [.blk g4 29 (Order.enc { o with price := 1 })] [] [26, 27] (.step 1 <| .step 0 <| .step 2 <| .step 3 <| .step 4 <| .nil) hmix; decide +kernel) | apply ep_nil | apply ep_alt | (apply ep_step; exact rfl)
          | (apply es_callG (hs := (book_New W _)); (iterate 7 exact rfl); (rintro _ _ ⟨pn, An, cn, rfl, rfl⟩; refine ⟨by (apply keep1; (repeat (first | exact List.mem_cons_self | apply List.mem_cons_of_mem))), ?_⟩))
          | (apply es_callG (hs := (hadd _ _ _ _)); (iterate 7 exact rfl); (rintro _ _ ⟨rfl, An2, cn2, rfl⟩; refine ⟨by (apply keep1; (repeat (first | exact List.mem_cons_self | apply List.mem_cons_of_mem))), ?_⟩))
          | ((first | (apply es_load; (iterate 5 exact rfl)) | (apply es_loadL; (iterate 5 exact rfl); first | exact fun _ h => h | (apply keep1; (repeat (first | exact List.mem_cons_self | apply List.mem_cons_of_mem))))); first | (apply ld_blk hT; exact rfl; exact rfl; (repeat (first | exact List.mem_cons_self | apply List.mem_cons_of_mem)); exact rfl; exact rfl) | (apply ld_all hT; exact rfl; exact rfl; (repeat (first | exact List.mem_cons_self | apply List.mem_cons_of_mem)); exact rfl))
          | (apply es_box; (iterate 5 exact rfl); intro _) | (apply es_alloc hT; (iterate 5 exact rfl); intro _)
          | (apply aw_condT; (iterate 2 exact rfl)) | (apply aw_condF; (iterate 2 exact rfl))
          | (apply es_case; exact rfl; all_goals intro hb; all_goals (try simp only [hb]); all_goals (first | replace hb := of_decide_eq_true hb | replace hb := of_decide_eq_false hb | replace hb := bne_t hb | replace hb := bne_f hb | skip); all_goals (try (exfalso; omega)))
          | (apply aw_cond; exact rfl; all_goals intro hb; all_goals (try simp only [hb]); all_goals (first | replace hb := of_decide_eq_true hb | replace hb := of_decide_eq_false hb | replace hb := bne_t hb | replace hb := bne_f hb | skip); all_goals (try (exfalso; omega))))
        all_goals first
          | (exfalso; omega)
          | (apply ret1; exact rfl; exact ⟨rfl, by (repeat (first | exact dt_end | (apply dt_cons; · (repeat (first | exact sel0 | apply selS))) | apply dt_skip))⟩)
          | skip
  · have has : asX how o = o := by unfold asX; rw [if_neg h4]
    rw [has] at hcl hadd ⊢
    repeat' (first
      | apply aw_seq | apply aw_region | apply aw_ret | apply aw_skip | apply aw_exit | apply aw_block | apply es_nil
      | (apply es_pure hT; (iterate 4 exact rfl)) | (apply es_skip; (iterate 3 exact rfl)) | (apply es_skip0; (iterate 2 exact rfl))
      | (apply es_i64 hT; (iterate 4 exact rfl); (iterate 2 omega))
      | (apply aw_draw [] [] hmix; decide +kernel)
      | (apply es_box; (iterate 5 exact rfl); intro g4)
      | (apply es_store hT; (iterate 6 exact rfl); (repeat (first | exact sel0 | apply selS)); (iterate 3 exact rfl); exact Nat.le_of_ble_eq_true rfl)
      | (apply es_buildSlice hT; (iterate 12 exact rfl); intro g25)
      | (apply es_load; (iterate 5 exact rfl); first | (apply ld_blk hT; exact rfl; exact rfl; (repeat (first | exact List.mem_cons_self | apply List.mem_cons_of_mem)); exact rfl; exact rfl) | (apply ld_all hT; exact rfl; exact rfl; (repeat (first | exact List.mem_cons_self | apply List.mem_cons_of_mem)); exact rfl))
      | (apply es_box; (iterate 5 exact rfl); intro _) | (apply es_alloc hT; (iterate 5 exact rfl); intro _)
      | (apply aw_condT; (iterate 2 exact rfl)) | (apply aw_condF; (iterate 2 exact rfl))
      | (apply es_case; exact rfl; all_goals intro hb; all_goals (try simp only [hb]); all_goals (first | replace hb := of_decide_eq_true hb | replace hb := of_decide_eq_false hb | replace hb := bne_t hb | replace hb := bne_f hb | skip); all_goals (try (exfalso; omega)))
      | (apply aw_cond; exact rfl; all_goals intro hb; all_goals (try simp only [hb]); all_goals (first | replace hb := of_decide_eq_true hb | replace hb := of_decide_eq_false hb | replace hb := bne_t hb | replace hb := bne_f hb | skip); all_goals (try (exfalso; omega))))
    all_goals try (exfalso; omega)
    refine aw_loopD (α := Nat) (E := fun k => [(0, .pointer (some ⟨p, 0, none⟩)), (4, .pointer (some ⟨g4, 0, none⟩)), (25, .slice (some ⟨g25, 0, none⟩) 2 2), (26, .int .i64 2), (27, .int .i64 k)])
      (H := fun k => .own (some ⟨g25, 0, none⟩) 2 2 3 1 [.int .i64 1, .int .i64 2] :: .blk g4 29 (Order.enc o) :: h') (μ := fun k => 2 - k)
      (S := fun k => k ≤ 2 ∧ (1 ≤ k → idxOf (clashO o) (sideO 1 l) < 0) ∧ (2 ≤ k → idxOf (clashO o) (sideO 2 l) < 0)) 0 ⟨by omega, fun h => by omega, fun h => by omega⟩ ⟨rfl, rfl, rfl, rfl, rfl, trivial⟩ (by (repeat (first | exact dt_end | (apply dt_cons; · (repeat (first | exact sel0 | apply selS))) | apply dt_skip))) ?_
    rintro k ⟨hk, hk1, hk2⟩
    have hrd : Reads W (.own (some ⟨g25, 0, none⟩) 2 2 3 1 [.int .i64 1, .int .i64 2] :: .blk g4 29 (Order.enc o) :: h') (some ⟨g25, 0, none⟩) 2 1 [.int .i64 1, .int .i64 2] := Reads.own mem0 rfl (List.all_eq_true.1 (rfl : ([.int .i64 1, .int .i64 2] : List Value).all Value.oneCell' = true))
    rcases (show k = 0 ∨ k = 1 ∨ k = 2 by omega) with rfl | rfl | rfl
    · have hd1 : decide (((0 : Nat) : Int) < 2) = true := by decide
      have hx2 : ([.int .i64 1, .int .i64 2] : List Value)[((0 : Nat) : Int).toNat * 1]? = some (.int .i64 1) := rfl
      rcases Int.lt_or_le (idxOf (clashO o) (sideO 1 l)) 0 with hn | hn
      · have hct1 := hct o 1
        rw [show decide (idxOf (clashO o) (sideO 1 l) ≥ 0) = false by simp; omega] at hct1
        repeat' (first
          | apply aw_seq | apply aw_region | apply aw_ret | apply aw_skip | apply aw_exit | apply aw_block | apply es_nil
          | (apply es_pure hT; (iterate 4 exact rfl)) | (apply es_skip; (iterate 3 exact rfl)) | (apply es_skip0; (iterate 2 exact rfl))
          | (apply es_i64 hT; (iterate 4 exact rfl); (iterate 2 omega))
          | (apply aw_draw [] [] hmix; decide +kernel)
          | (apply es_idx hT; (iterate 8 exact rfl); (iterate 2 omega); exact rfl)
          | (apply es_load; (iterate 5 exact rfl); exact ld_row hT rfl rfl hrd rfl hx2)
          | (apply es_call (hs := (hS 1 _ (.tail _ (.tail _ m1)) (.tail _ (.tail _ m2)))); (iterate 7 exact rfl); rintro _ _ ⟨AS, cS, rfl, rfl, hfS⟩)
          | (apply es_callQ (hs := (hct1 _ _ _ _ (by omega) hfS (by (repeat (first | exact List.mem_cons_self | apply List.mem_cons_of_mem))) (by (repeat (first | exact List.mem_cons_self | apply List.mem_cons_of_mem))))); (iterate 7 exact rfl))
          | (apply es_load; (iterate 5 exact rfl); first | (apply ld_blk hT; exact rfl; exact rfl; (repeat (first | exact List.mem_cons_self | apply List.mem_cons_of_mem)); exact rfl; exact rfl) | (apply ld_all hT; exact rfl; exact rfl; (repeat (first | exact List.mem_cons_self | apply List.mem_cons_of_mem)); exact rfl))
          | (apply es_box; (iterate 5 exact rfl); intro _) | (apply es_alloc hT; (iterate 5 exact rfl); intro _)
          | (apply aw_condT; (iterate 2 exact rfl)) | (apply aw_condF; (iterate 2 exact rfl))
          | (apply es_case; exact rfl; all_goals intro hb; all_goals (try simp only [hb]); all_goals (first | replace hb := of_decide_eq_true hb | replace hb := of_decide_eq_false hb | replace hb := bne_t hb | replace hb := bne_f hb | skip); all_goals (try (exfalso; omega)))
          | (apply aw_cond; exact rfl; all_goals intro hb; all_goals (try simp only [hb]); all_goals (first | replace hb := of_decide_eq_true hb | replace hb := of_decide_eq_false hb | replace hb := bne_t hb | replace hb := bne_f hb | skip); all_goals (try (exfalso; omega))))
        all_goals first
          | (exfalso; omega)
          | exact loopq_end 1 (by decide) ⟨by omega, fun _ => hn, fun h => absurd h (by decide)⟩ ⟨rfl, rfl, rfl, rfl, rfl, trivial⟩ (by (repeat (first | exact dt_end | (apply dt_cons; · (repeat (first | exact sel0 | apply selS))) | apply dt_skip)))
          | (apply blockq_n; exact loopq_end 1 (by decide) ⟨by omega, fun _ => hn, fun h => absurd h (by decide)⟩ ⟨rfl, rfl, rfl, rfl, rfl, trivial⟩ (by (repeat (first | exact dt_end | (apply dt_cons; · (repeat (first | exact sel0 | apply selS))) | apply dt_skip))))
          | skip
      · have hct1 := hct o 1
        rw [show decide (idxOf (clashO o) (sideO 1 l) ≥ 0) = true by simp; omega] at hct1
        repeat' (first
          | apply aw_seq | apply aw_region | apply aw_ret | apply aw_skip | apply aw_exit | apply aw_block | apply es_nil
          | (apply es_pure hT; (iterate 4 exact rfl)) | (apply es_skip; (iterate 3 exact rfl)) | (apply es_skip0; (iterate 2 exact rfl))
          | (apply es_i64 hT; (iterate 4 exact rfl); (iterate 2 omega))
          | (apply aw_draw [] [] hmix; decide +kernel)
          | (apply es_idx hT; (iterate 8 exact rfl); (iterate 2 omega); exact rfl)
          | (apply es_load; (iterate 5 exact rfl); exact ld_row hT rfl rfl hrd rfl hx2)
          | (apply es_call (hs := (hS 1 _ (.tail _ (.tail _ m1)) (.tail _ (.tail _ m2)))); (iterate 7 exact rfl); rintro _ _ ⟨AS, cS, rfl, rfl, hfS⟩)
          | (apply es_callQ (hs := (hct1 _ _ _ _ (by omega) hfS (by (repeat (first | exact List.mem_cons_self | apply List.mem_cons_of_mem))) (by (repeat (first | exact List.mem_cons_self | apply List.mem_cons_of_mem))))); (iterate 7 exact rfl))
          | (apply es_load; (iterate 5 exact rfl); first | (apply ld_blk hT; exact rfl; exact rfl; (repeat (first | exact List.mem_cons_self | apply List.mem_cons_of_mem)); exact rfl; exact rfl) | (apply ld_all hT; exact rfl; exact rfl; (repeat (first | exact List.mem_cons_self | apply List.mem_cons_of_mem)); exact rfl))
          | (apply es_box; (iterate 5 exact rfl); intro _) | (apply es_alloc hT; (iterate 5 exact rfl); intro _)
          | (apply aw_condT; (iterate 2 exact rfl)) | (apply aw_condF; (iterate 2 exact rfl))
          | (apply es_case; exact rfl; all_goals intro hb; all_goals (try simp only [hb]); all_goals (first | replace hb := of_decide_eq_true hb | replace hb := of_decide_eq_false hb | replace hb := bne_t hb | replace hb := bne_f hb | skip); all_goals (try (exfalso; omega)))
          | (apply aw_cond; exact rfl; all_goals intro hb; all_goals (try simp only [hb]); all_goals (first | replace hb := of_decide_eq_true hb | replace hb := of_decide_eq_false hb | replace hb := bne_t hb | replace hb := bne_f hb | skip); all_goals (try (exfalso; omega))))
        all_goals first
          | (exfalso; omega)
          | (apply ret1; exact rfl
             refine ⟨?_, by (repeat (first | exact dt_end | (apply dt_cons; · (repeat (first | exact sel0 | apply selS))) | apply dt_skip))⟩
             rw [show decide (idxOf (clashO o) l < 0) = false by rw [decide_eq_false_iff_not, hcl]; omega, Bool.and_false])
          | skip
    · have hd1 : decide (((1 : Nat) : Int) < 2) = true := by decide
      have hx2 : ([.int .i64 1, .int .i64 2] : List Value)[((1 : Nat) : Int).toNat * 1]? = some (.int .i64 2) := rfl
      rcases Int.lt_or_le (idxOf (clashO o) (sideO 2 l)) 0 with hn | hn
      · have hct1 := hct o 2
        rw [show decide (idxOf (clashO o) (sideO 2 l) ≥ 0) = false by simp; omega] at hct1
        repeat' (first
          | apply aw_seq | apply aw_region | apply aw_ret | apply aw_skip | apply aw_exit | apply aw_block | apply es_nil
          | (apply es_pure hT; (iterate 4 exact rfl)) | (apply es_skip; (iterate 3 exact rfl)) | (apply es_skip0; (iterate 2 exact rfl))
          | (apply es_i64 hT; (iterate 4 exact rfl); (iterate 2 omega))
          | (apply aw_draw [] [] hmix; decide +kernel)
          | (apply es_idx hT; (iterate 8 exact rfl); (iterate 2 omega); exact rfl)
          | (apply es_load; (iterate 5 exact rfl); exact ld_row hT rfl rfl hrd rfl hx2)
          | (apply es_call (hs := (hS 2 _ (.tail _ (.tail _ m1)) (.tail _ (.tail _ m2)))); (iterate 7 exact rfl); rintro _ _ ⟨AS, cS, rfl, rfl, hfS⟩)
          | (apply es_callQ (hs := (hct1 _ _ _ _ (by omega) hfS (by (repeat (first | exact List.mem_cons_self | apply List.mem_cons_of_mem))) (by (repeat (first | exact List.mem_cons_self | apply List.mem_cons_of_mem))))); (iterate 7 exact rfl))
          | (apply es_load; (iterate 5 exact rfl); first | (apply ld_blk hT; exact rfl; exact rfl; (repeat (first | exact List.mem_cons_self | apply List.mem_cons_of_mem)); exact rfl; exact rfl) | (apply ld_all hT; exact rfl; exact rfl; (repeat (first | exact List.mem_cons_self | apply List.mem_cons_of_mem)); exact rfl))
          | (apply es_box; (iterate 5 exact rfl); intro _) | (apply es_alloc hT; (iterate 5 exact rfl); intro _)
          | (apply aw_condT; (iterate 2 exact rfl)) | (apply aw_condF; (iterate 2 exact rfl))
          | (apply es_case; exact rfl; all_goals intro hb; all_goals (try simp only [hb]); all_goals (first | replace hb := of_decide_eq_true hb | replace hb := of_decide_eq_false hb | replace hb := bne_t hb | replace hb := bne_f hb | skip); all_goals (try (exfalso; omega)))
          | (apply aw_cond; exact rfl; all_goals intro hb; all_goals (try simp only [hb]); all_goals (first | replace hb := of_decide_eq_true hb | replace hb := of_decide_eq_false hb | replace hb := bne_t hb | replace hb := bne_f hb | skip); all_goals (try (exfalso; omega))))
        all_goals first
          | (exfalso; omega)
          | exact loopq_end 2 (by decide) ⟨by omega, fun _ => hk1 (by decide), fun _ => hn⟩ ⟨rfl, rfl, rfl, rfl, rfl, trivial⟩ (by (repeat (first | exact dt_end | (apply dt_cons; · (repeat (first | exact sel0 | apply selS))) | apply dt_skip)))
          | (apply blockq_n; exact loopq_end 2 (by decide) ⟨by omega, fun _ => hk1 (by decide), fun _ => hn⟩ ⟨rfl, rfl, rfl, rfl, rfl, trivial⟩ (by (repeat (first | exact dt_end | (apply dt_cons; · (repeat (first | exact sel0 | apply selS))) | apply dt_skip))))
          | skip
      · have hct1 := hct o 2
        rw [show decide (idxOf (clashO o) (sideO 2 l) ≥ 0) = true by simp; omega] at hct1
        repeat' (first
          | apply aw_seq | apply aw_region | apply aw_ret | apply aw_skip | apply aw_exit | apply aw_block | apply es_nil
          | (apply es_pure hT; (iterate 4 exact rfl)) | (apply es_skip; (iterate 3 exact rfl)) | (apply es_skip0; (iterate 2 exact rfl))
          | (apply es_i64 hT; (iterate 4 exact rfl); (iterate 2 omega))
          | (apply aw_draw [] [] hmix; decide +kernel)
          | (apply es_idx hT; (iterate 8 exact rfl); (iterate 2 omega); exact rfl)
          | (apply es_load; (iterate 5 exact rfl); exact ld_row hT rfl rfl hrd rfl hx2)
          | (apply es_call (hs := (hS 2 _ (.tail _ (.tail _ m1)) (.tail _ (.tail _ m2)))); (iterate 7 exact rfl); rintro _ _ ⟨AS, cS, rfl, rfl, hfS⟩)
          | (apply es_callQ (hs := (hct1 _ _ _ _ (by omega) hfS (by (repeat (first | exact List.mem_cons_self | apply List.mem_cons_of_mem))) (by (repeat (first | exact List.mem_cons_self | apply List.mem_cons_of_mem))))); (iterate 7 exact rfl))
          | (apply es_load; (iterate 5 exact rfl); first | (apply ld_blk hT; exact rfl; exact rfl; (repeat (first | exact List.mem_cons_self | apply List.mem_cons_of_mem)); exact rfl; exact rfl) | (apply ld_all hT; exact rfl; exact rfl; (repeat (first | exact List.mem_cons_self | apply List.mem_cons_of_mem)); exact rfl))
          | (apply es_box; (iterate 5 exact rfl); intro _) | (apply es_alloc hT; (iterate 5 exact rfl); intro _)
          | (apply aw_condT; (iterate 2 exact rfl)) | (apply aw_condF; (iterate 2 exact rfl))
          | (apply es_case; exact rfl; all_goals intro hb; all_goals (try simp only [hb]); all_goals (first | replace hb := of_decide_eq_true hb | replace hb := of_decide_eq_false hb | replace hb := bne_t hb | replace hb := bne_f hb | skip); all_goals (try (exfalso; omega)))
          | (apply aw_cond; exact rfl; all_goals intro hb; all_goals (try simp only [hb]); all_goals (first | replace hb := of_decide_eq_true hb | replace hb := of_decide_eq_false hb | replace hb := bne_t hb | replace hb := bne_f hb | skip); all_goals (try (exfalso; omega))))
        all_goals first
          | (exfalso; omega)
          | (apply ret1; exact rfl
             refine ⟨?_, by (repeat (first | exact dt_end | (apply dt_cons; · (repeat (first | exact sel0 | apply selS))) | apply dt_skip))⟩
             rw [show decide (idxOf (clashO o) l < 0) = false by rw [decide_eq_false_iff_not, hcl]; omega, Bool.and_false])
          | skip
    · have hd1 : decide (((2 : Nat) : Int) < 2) = false := by decide
      have hall := hcl.2 ⟨hk1 (by decide), hk2 (by decide)⟩
      rw [decide_eq_true hall, Bool.and_true]
      cases hok : okO o
      · rw [hok] at hadd
        repeat' (first
          | apply aw_seq | apply aw_region | apply aw_ret | apply aw_skip | apply aw_exit | apply aw_block | apply es_nil
          | (apply es_pure hT; (iterate 4 exact rfl)) | (apply es_skip; (iterate 3 exact rfl)) | (apply es_skip0; (iterate 2 exact rfl))
          | (apply es_i64 hT; (iterate 4 exact rfl); (iterate 2 omega))
          | (apply aw_draw [] [] hmix; decide +kernel)
          | (apply aw_treeH [.blk g4 29 (Order.enc o)] [] [26, 27] (.step 1 <| .step 0 <| .step 2 <| .step 3 <| .step 4 <| .nil) hmix; decide +kernel) | apply ep_nil | apply ep_alt | (apply ep_step; exact rfl)
          | (apply es_callG (hs := (book_New W _)); (iterate 7 exact rfl); (rintro _ _ ⟨pn, An, cn, rfl, rfl⟩; refine ⟨by (apply keep1; (repeat (first | exact List.mem_cons_self | apply List.mem_cons_of_mem))), ?_⟩))
          | (apply es_callG (hs := (hadd _ _ _ _)); (iterate 7 exact rfl); (rintro _ _ ⟨rfl, An2, cn2, rfl⟩; refine ⟨by (apply keep1; (repeat (first | exact List.mem_cons_self | apply List.mem_cons_of_mem))), ?_⟩))
          | ((first | (apply es_load; (iterate 5 exact rfl)) | (apply es_loadL; (iterate 5 exact rfl); first | exact fun _ h => h | (apply keep1; (repeat (first | exact List.mem_cons_self | apply List.mem_cons_of_mem))))); first | (apply ld_blk hT; exact rfl; exact rfl; (repeat (first | exact List.mem_cons_self | apply List.mem_cons_of_mem)); exact rfl; exact rfl) | (apply ld_all hT; exact rfl; exact rfl; (repeat (first | exact List.mem_cons_self | apply List.mem_cons_of_mem)); exact rfl))
          | (apply es_box; (iterate 5 exact rfl); intro _) | (apply es_alloc hT; (iterate 5 exact rfl); intro _)
          | (apply aw_condT; (iterate 2 exact rfl)) | (apply aw_condF; (iterate 2 exact rfl))
          | (apply es_case; exact rfl; all_goals intro hb; all_goals (try simp only [hb]); all_goals (first | replace hb := of_decide_eq_true hb | replace hb := of_decide_eq_false hb | replace hb := bne_t hb | replace hb := bne_f hb | skip); all_goals (try (exfalso; omega)))
          | (apply aw_cond; exact rfl; all_goals intro hb; all_goals (try simp only [hb]); all_goals (first | replace hb := of_decide_eq_true hb | replace hb := of_decide_eq_false hb | replace hb := bne_t hb | replace hb := bne_f hb | skip); all_goals (try (exfalso; omega))))
        all_goals first
          | (exfalso; omega)
          | (apply ret1; exact rfl; exact ⟨rfl, by (repeat (first | exact dt_end | (apply dt_cons; · (repeat (first | exact sel0 | apply selS))) | apply dt_skip))⟩)
          | skip
      · rw [hok] at hadd
        repeat' (first
          | apply aw_seq | apply aw_region | apply aw_ret | apply aw_skip | apply aw_exit | apply aw_block | apply es_nil
          | (apply es_pure hT; (iterate 4 exact rfl)) | (apply es_skip; (iterate 3 exact rfl)) | (apply es_skip0; (iterate 2 exact rfl))
          | (apply es_i64 hT; (iterate 4 exact rfl); (iterate 2 omega))
          | (apply aw_draw [] [] hmix; decide +kernel)
          | (apply aw_treeH [.blk g4 29 (Order.enc o)] [] [26, 27] (.step 1 <| .step 0 <| .step 2 <| .step 3 <| .step 4 <| .nil) hmix; decide +kernel) | apply ep_nil | apply ep_alt | (apply ep_step; exact rfl)
          | (apply es_callG (hs := (book_New W _)); (iterate 7 exact rfl); (rintro _ _ ⟨pn, An, cn, rfl, rfl⟩; refine ⟨by (apply keep1; (repeat (first | exact List.mem_cons_self | apply List.mem_cons_of_mem))), ?_⟩))
          | (apply es_callG (hs := (hadd _ _ _ _)); (iterate 7 exact rfl); (rintro _ _ ⟨rfl, An2, cn2, rfl⟩; refine ⟨by (apply keep1; (repeat (first | exact List.mem_cons_self | apply List.mem_cons_of_mem))), ?_⟩))
          | ((first | (apply es_load; (iterate 5 exact rfl)) | (apply es_loadL; (iterate 5 exact rfl); first | exact fun _ h => h | (apply keep1; (repeat (first | exact List.mem_cons_self | apply List.mem_cons_of_mem))))); first | (apply ld_blk hT; exact rfl; exact rfl; (repeat (first | exact List.mem_cons_self | apply List.mem_cons_of_mem)); exact rfl; exact rfl) | (apply ld_all hT; exact rfl; exact rfl; (repeat (first | exact List.mem_cons_self | apply List.mem_cons_of_mem)); exact rfl))
          | (apply es_box; (iterate 5 exact rfl); intro _) | (apply es_alloc hT; (iterate 5 exact rfl); intro _)
          | (apply aw_condT; (iterate 2 exact rfl)) | (apply aw_condF; (iterate 2 exact rfl))
          | (apply es_case; exact rfl; all_goals intro hb; all_goals (try simp only [hb]); all_goals (first | replace hb := of_decide_eq_true hb | replace hb := of_decide_eq_false hb | replace hb := bne_t hb | replace hb := bne_f hb | skip); all_goals (try (exfalso; omega)))
          | (apply aw_cond; exact rfl; all_goals intro hb; all_goals (try simp only [hb]); all_goals (first | replace hb := of_decide_eq_true hb | replace hb := of_decide_eq_false hb | replace hb := bne_t hb | replace hb := bne_f hb | skip); all_goals (try (exfalso; omega))))
        all_goals first
          | (exfalso; omega)
          | (apply ret1; exact rfl; exact ⟨rfl, by (repeat (first | exact dt_end | (apply dt_cons; · (repeat (first | exact sel0 | apply selS))) | apply dt_skip))⟩)
          | skip
end Go.Proofs.Ytiefkpfamkkapaa
