/- Contracts of package depth, and of the document's answer (consolsref16): all of a side, what so much costs. Conditions stand in each statement. -/
import Derived.Test.YtiefkpfamkkapaaDepthL
import Derived.Test.YtiefkpfamkkapaaFix
set_option linter.unusedSimpArgs false
set_option linter.unusedVariables false
namespace Go.Proofs.Ytiefkpfamkkapaa
open Go Go.Sl
attribute [local irreducible] AW ES EP Ld RetQ
set_option maxRecDepth 100000

theorem take_map {α β : Type} {l : List α} {k : Nat} {x : α} (f : α → β) (h : l[k]? = some x) : (l.take (k + 1)).map f = (l.take k).map f ++ [f x] := by
  rw [List.take_add_one, h, List.map_append]; rfl
theorem totL_take {l : List (Int × Int)} (h : okP l) (k : Nat) : totL (l.take k) ≤ totL l := by
  have e := totL_app (l.take k) (l.drop k)
  rw [List.take_append_drop] at e
  have := totL_pos (l := l.drop k) (fun x hx => h x (List.mem_of_mem_drop hx))
  omega
theorem levels_ok {l : List Order} (h : BookB l) (s : Int) : okP ((levelsO (sideO s l)).map pqL) := (levels_cost (h.okS s)).1

theorem depth_All (W : World) (p : Nat) (A : Option Addr) (c : Nat) (l : List Order) (s : Int) (hB : BookB l) :
    QSpec Try.prog W 50 [.pointer (some ⟨p, 0, none⟩), .int .i64 s] (bookTab p A c l []) (.int .i64 (allS s l)) := by
  refine QSpec.ofD (fun h' hs => ?_)
  have m1 := hs _ mem0
  have m2 := hs _ mem1
  have hlev := book_Levels W h' p A c l s m1 m2 hB.le hB.seq hB.side hB.left
  obtain ⟨hok, htot, _⟩ := levels_cost (hB.okS s)
  have hbd := allS_bd hB s
  have hvl := levels_len (sideO s l)
  have hsl := sideO_len s l
  have hbl := hB.len
  unfold allS at hbd ⊢
  rw [← htot] at hbd ⊢
  generalize levelsO (sideO s l) = v at hlev hok hbd hvl ⊢
  refine spec_body Try.func50 rfl rfl Try.results50 Try.ntmps50 rfl rfl ?_
  repeat' (first
    | apply aw_seq | apply aw_region | apply aw_ret | apply aw_skip | apply aw_exit | apply aw_block | apply es_nil
    | (apply es_pure hT; (iterate 4 exact rfl)) | (apply es_skip; (iterate 3 exact rfl)) | (apply es_skip0; (iterate 2 exact rfl))
    | (apply es_i64 hT; (iterate 4 exact rfl); (iterate 2 omega))
    | (apply aw_draw [] [] hmix; decide +kernel)
    | (apply es_call (hs := hlev); (iterate 7 exact rfl); rintro _ _ ⟨AL, cL, rfl, rfl, hfL⟩)
    | (apply es_load; (iterate 5 exact rfl); first | (apply ld_blk hT; exact rfl; exact rfl; (repeat (first | exact List.mem_cons_self | apply List.mem_cons_of_mem)); exact rfl; exact rfl) | (apply ld_all hT; exact rfl; exact rfl; (repeat (first | exact List.mem_cons_self | apply List.mem_cons_of_mem)); exact rfl))
    | (apply es_box; (iterate 5 exact rfl); intro _) | (apply es_alloc hT; (iterate 5 exact rfl); intro _)
    | (apply aw_condT; (iterate 2 exact rfl)) | (apply aw_condF; (iterate 2 exact rfl))
    | (apply es_case; exact rfl; all_goals intro hb; all_goals (try simp only [hb]); all_goals (first | replace hb := of_decide_eq_true hb | replace hb := of_decide_eq_false hb | replace hb := bne_t hb | replace hb := bne_f hb | skip); all_goals (try (exfalso; omega)))
    | (apply aw_cond; exact rfl; all_goals intro hb; all_goals (try simp only [hb]); all_goals (first | replace hb := of_decide_eq_true hb | replace hb := of_decide_eq_false hb | replace hb := bne_t hb | replace hb := bne_f hb | skip); all_goals (try (exfalso; omega))))
  refine aw_loop (α := Nat) (E := fun k => [(5, .int .i64 (totL ((v.take k).map pqL))), (10, .slice AL v.length cL), (11, .int .i64 v.length), (12, .int .i64 k)]) (H := fun _ => .own AL v.length cL 35 2 (v.flatMap Lvl.enc) :: h') (μ := fun k => v.length - k)
    (S := fun k => k ≤ v.length) 0 (J := []) (Nat.zero_le _) ⟨rfl, rfl, rfl, rfl, trivial⟩ (List.Perm.refl _) ?_
  intro k hk
  by_cases hlt : k < v.length
  · obtain ⟨x, hx⟩ : ∃ x, v[k]? = some x := ⟨v[k]'(by omega), List.getElem?_eq_getElem (by omega)⟩
    have hx2 : v[(k : Int).toNat]? = some x := by simpa using hx
    have hA := hfL.some_ (by omega)
    have hd1 : decide ((k : Int) < (v.length : Int)) = true := by simp; omega
    have hst : totL ((v.take (k + 1)).map pqL) = totL ((v.take k).map pqL) + x.qty := by
      rw [take_map pqL hx, totL_app]; simp [totL, pqL]
    have h1 := totL_take hok (k + 1)
    have h2 := totL_pos (okP_take hok k)
    have h3 := totL_pos (okP_take hok (k + 1))
    rw [← List.map_take] at h1 h2 h3
    rw [hst] at h1 h3
    repeat' (first
      | apply aw_seq | apply aw_region | apply aw_ret | apply aw_skip | apply aw_exit | apply aw_block | apply es_nil
      | (apply es_pure hT; (iterate 4 exact rfl)) | (apply es_skip; (iterate 3 exact rfl)) | (apply es_skip0; (iterate 2 exact rfl))
      | (apply es_i64 hT; (iterate 4 exact rfl); (iterate 2 omega))
      | (apply aw_draw [] [] hmix; decide +kernel)
      | (apply es_idx hT; (iterate 8 exact rfl); (iterate 2 omega); exact hA)
      | (apply es_load; (iterate 5 exact rfl); exact ld_elem hT rfl rfl (hfL.reads mem0) Lvl.enc_len rfl hx2 rfl)
      | (apply es_alloc hT; (iterate 5 exact rfl); intro g7)
      | (apply es_store hT; (iterate 6 exact rfl); (repeat (first | exact sel0 | apply selS)); (iterate 3 exact rfl); exact Nat.le_of_ble_eq_true rfl)
      | (apply es_load; (iterate 5 exact rfl); first | (apply ld_blk hT; exact rfl; exact rfl; (repeat (first | exact List.mem_cons_self | apply List.mem_cons_of_mem)); exact rfl; exact rfl) | (apply ld_all hT; exact rfl; exact rfl; (repeat (first | exact List.mem_cons_self | apply List.mem_cons_of_mem)); exact rfl))
      | (apply es_box; (iterate 5 exact rfl); intro _) | (apply es_alloc hT; (iterate 5 exact rfl); intro _)
      | (apply aw_condT; (iterate 2 exact rfl)) | (apply aw_condF; (iterate 2 exact rfl))
      | (apply es_case; exact rfl; all_goals intro hb; all_goals (try simp only [hb]); all_goals (first | replace hb := of_decide_eq_true hb | replace hb := of_decide_eq_false hb | replace hb := bne_t hb | replace hb := bne_f hb | skip); all_goals (try (exfalso; omega)))
      | (apply aw_cond; exact rfl; all_goals intro hb; all_goals (try simp only [hb]); all_goals (first | replace hb := of_decide_eq_true hb | replace hb := of_decide_eq_false hb | replace hb := bne_t hb | replace hb := bne_f hb | skip); all_goals (try (exfalso; omega))))
    all_goals first
      | (exfalso; omega)
      | exact loopq_end (k + 1) (by (try dsimp only); omega) (by (try dsimp only); omega) ⟨by (try dsimp only); rw [hst]; rfl, rfl, rfl, rfl, trivial⟩ (dt_skip dt_end)
      | skip
  · obtain rfl : k = v.length := by omega
    have hd1 : decide ((v.length : Int) < (v.length : Int)) = false := by simp
    rw [List.take_length]
    repeat' (first
      | apply aw_seq | apply aw_region | apply aw_ret | apply aw_skip | apply aw_exit | apply aw_block | apply es_nil
      | (apply es_pure hT; (iterate 4 exact rfl)) | (apply es_skip; (iterate 3 exact rfl)) | (apply es_skip0; (iterate 2 exact rfl))
      | (apply es_i64 hT; (iterate 4 exact rfl); (iterate 2 omega))
      | (apply aw_draw [] [] hmix; decide +kernel)
      | (apply es_load; (iterate 5 exact rfl); first | (apply ld_blk hT; exact rfl; exact rfl; (repeat (first | exact List.mem_cons_self | apply List.mem_cons_of_mem)); exact rfl; exact rfl) | (apply ld_all hT; exact rfl; exact rfl; (repeat (first | exact List.mem_cons_self | apply List.mem_cons_of_mem)); exact rfl))
      | (apply es_box; (iterate 5 exact rfl); intro _) | (apply es_alloc hT; (iterate 5 exact rfl); intro _)
      | (apply aw_condT; (iterate 2 exact rfl)) | (apply aw_condF; (iterate 2 exact rfl))
      | (apply es_case; exact rfl; all_goals intro hb; all_goals (try simp only [hb]); all_goals (first | replace hb := of_decide_eq_true hb | replace hb := of_decide_eq_false hb | replace hb := bne_t hb | replace hb := bne_f hb | skip); all_goals (try (exfalso; omega)))
      | (apply aw_cond; exact rfl; all_goals intro hb; all_goals (try simp only [hb]); all_goals (first | replace hb := of_decide_eq_true hb | replace hb := of_decide_eq_false hb | replace hb := bne_t hb | replace hb := bne_f hb | skip); all_goals (try (exfalso; omega))))
    all_goals first
      | (exfalso; omega)
      | (apply ret1; exact rfl; exact ⟨rfl, dt_skip dt_end⟩)

/-- a product of numbers that are not negative -/
theorem fix_TimesI (W : World) (a b : Int) (ha : 0 ≤ a ∧ a ≤ 9223372036854775807) (hb : 0 ≤ b ∧ b ≤ 9223372036854775807) :
    QSpec Try.prog W 85 [.int .i64 a, .int .i64 b] [] (gotW (some (a * b).toNat)) := by
  obtain ⟨a, rfl⟩ := Int.eq_ofNat_of_zero_le ha.1
  obtain ⟨b, rfl⟩ := Int.eq_ofNat_of_zero_le hb.1
  have := fix_Times W a b (by omega) (by omega)
  rw [show ((a : Int) * (b : Int)).toNat = a * b by rw [← Int.natCast_mul, Int.toNat_natCast]]
  exact this
theorem ref1_TimesI (W : World) (a b : Int) (ha : 0 ≤ a ∧ a ≤ 9223372036854775807) (hb : 0 ≤ b ∧ b ≤ 9223372036854775807) :
    QSpec Try.prog W 48 [.int .i64 a, .int .i64 b] [] (gotW (some (a * b).toNat)) := by
  obtain ⟨a, rfl⟩ := Int.eq_ofNat_of_zero_le ha.1
  obtain ⟨b, rfl⟩ := Int.eq_ofNat_of_zero_le hb.1
  have := ref1_Times W a b (by omega) (by omega)
  rw [show ((a : Int) * (b : Int)).toNat = a * b by rw [← Int.natCast_mul, Int.toNat_natCast]]
  exact this

/-- one step along a side: what it costs, what is still asked for -/
theorem cost_step {l : List (Int × Int)} {k : Nat} {x : Int × Int} (hok : okP l) (hx : l[k]? = some x) {q : Int} (hq : 0 ≤ q) :
    costL (l.take (k + 1)) q = costL (l.take k) q + x.1 * min (q - min q (totL (l.take k))) x.2 ∧ q - min q (totL (l.take (k + 1))) = q - min q (totL (l.take k)) - min (q - min q (totL (l.take k))) x.2 := by
  have e : l.take (k + 1) = l.take k ++ [x] := by rw [List.take_add_one, hx]; rfl
  have hok1 := okP_take hok k
  have h1 := totL_pos hok1
  have h2 := (hok x (List.mem_of_getElem? hx)).2.2
  refine ⟨?_, ?_⟩
  · rw [e, costL_app hok1 hq]
    show _ + costL [(x.1, x.2)] _ = _
    rw [costL_one]
  · rw [e, totL_app]
    have : totL [x] = x.2 := by simp [totL]
    rw [this]; omega
theorem step_bd {p n : Int} (h1 : 1 ≤ p) (h2 : p ≤ 1000000) (h3 : 0 ≤ n) : 0 ≤ p * n ∧ p * n ≤ 1000000 * n :=
  ⟨Int.mul_nonneg (by omega) h3, Int.mul_le_mul_of_nonneg_right h2 h3⟩

set_option maxHeartbeats 2000000 in
theorem depth_Sweep (W : World) (p : Nat) (A : Option Addr) (c : Nat) (l : List Order) (s q : Int) (hB : BookB l) :
    QSpec Try.prog W 45 [.pointer (some ⟨p, 0, none⟩), .int .i64 s, .int .i64 q] (bookTab p A c l []) (gotW (sweepS s l q)) := by
  refine QSpec.ofD (fun h' hs => ?_)
  have m1 := hs _ mem0
  have m2 := hs _ mem1
  have hlev := fun X => book_Levels W (X :: h') p A c l s (.tail _ m1) (.tail _ m2) hB.le hB.seq hB.side hB.left
  have hall := (depth_All W p A c l s hB)
  obtain ⟨hok, htot, hcost⟩ := levels_cost (hB.okS s)
  have hbd := allS_bd hB s
  have hvl := levels_len (sideO s l)
  have hsl := sideO_len s l
  have hbl := hB.len
  refine spec_body Try.func45 rfl rfl Try.results45 Try.ntmps45 rfl rfl ?_
  by_cases hno : q < 1 ∨ allS s l < q
  · have hv : sweepS s l q = none := by unfold sweepS; rw [if_pos hno]
    rw [hv]
    repeat' (first
      | apply aw_seq | apply aw_region | apply aw_ret | apply aw_skip | apply aw_exit | apply aw_block | apply es_nil
      | (apply es_pure hT; (iterate 4 exact rfl)) | (apply es_skip; (iterate 3 exact rfl)) | (apply es_skip0; (iterate 2 exact rfl))
      | (apply es_i64 hT; (iterate 4 exact rfl); (iterate 2 omega))
      | (apply aw_draw [] [] hmix; decide +kernel)
      | (apply es_alloc hT; (iterate 5 exact rfl); intro g6)
      | (apply es_callQ (hs := (hall.mono (memPairB (.tail _ m1) (.tail _ m2)))); (iterate 7 exact rfl))
      | (apply es_build hT; (iterate 4 exact rfl))
      | (apply es_store hT; (iterate 6 exact rfl); (repeat (first | exact sel0 | apply selS)); (iterate 3 exact rfl); exact Nat.le_of_ble_eq_true rfl)
      | (apply es_load; (iterate 5 exact rfl); first | (apply ld_blk hT; exact rfl; exact rfl; (repeat (first | exact List.mem_cons_self | apply List.mem_cons_of_mem)); exact rfl; exact rfl) | (apply ld_all hT; exact rfl; exact rfl; (repeat (first | exact List.mem_cons_self | apply List.mem_cons_of_mem)); exact rfl))
      | (apply es_box; (iterate 5 exact rfl); intro _) | (apply es_alloc hT; (iterate 5 exact rfl); intro _)
      | (apply aw_condT; (iterate 2 exact rfl)) | (apply aw_condF; (iterate 2 exact rfl))
      | (apply es_case; exact rfl; all_goals intro hb; all_goals (try simp only [hb]); all_goals (first | replace hb := of_decide_eq_true hb | replace hb := of_decide_eq_false hb | replace hb := bne_t hb | replace hb := bne_f hb | skip); all_goals (try (exfalso; omega)))
      | (apply aw_cond; exact rfl; all_goals intro hb; all_goals (try simp only [hb]); all_goals (first | replace hb := of_decide_eq_true hb | replace hb := of_decide_eq_false hb | replace hb := bne_t hb | replace hb := bne_f hb | skip); all_goals (try (exfalso; omega))))
    all_goals first
      | (exfalso; omega)
      | (apply ret2c; exact rfl; exact ld_all hT rfl rfl mem0 rfl; exact rfl; exact ⟨rfl, dt_skip dt_end⟩)
  · have hv : sweepS s l q = some (costL ((levelsO (sideO s l)).map pqL) q).toNat := by unfold sweepS; rw [if_neg hno, hcost q (by omega)]
    rw [hv]
    have hq1 : ¬ q < 1 := fun h => hno (.inl h)
    have hq2 : q ≤ allS s l := by
      rcases Int.lt_or_le (allS s l) q with h | h
      · exact absurd (.inr h) hno
      · exact h
    generalize hall' : allS s l = al at hall hbd hq2
    unfold allS at hall'
    rw [← htot] at hall'
    generalize levelsO (sideO s l) = v at hlev hok hvl hall' ⊢
    repeat' (first
      | apply aw_seq | apply aw_region | apply aw_ret | apply aw_skip | apply aw_exit | apply aw_block | apply es_nil
      | (apply es_pure hT; (iterate 4 exact rfl)) | (apply es_skip; (iterate 3 exact rfl)) | (apply es_skip0; (iterate 2 exact rfl))
      | (apply es_i64 hT; (iterate 4 exact rfl); (iterate 2 omega))
      | (apply aw_draw [] [] hmix; decide +kernel)
      | (apply es_alloc hT; (iterate 5 exact rfl); intro g6)
      | (apply es_callQ (hs := (hall.mono (memPairB (.tail _ m1) (.tail _ m2)))); (iterate 7 exact rfl))
      | (apply es_call (hs := (hlev _)); (iterate 7 exact rfl); rintro _ _ ⟨AL, cL, rfl, rfl, hfL⟩)
      | (apply es_load; (iterate 5 exact rfl); first | (apply ld_blk hT; exact rfl; exact rfl; (repeat (first | exact List.mem_cons_self | apply List.mem_cons_of_mem)); exact rfl; exact rfl) | (apply ld_all hT; exact rfl; exact rfl; (repeat (first | exact List.mem_cons_self | apply List.mem_cons_of_mem)); exact rfl))
      | (apply es_box; (iterate 5 exact rfl); intro _) | (apply es_alloc hT; (iterate 5 exact rfl); intro _)
      | (apply aw_condT; (iterate 2 exact rfl)) | (apply aw_condF; (iterate 2 exact rfl))
      | (apply es_case; exact rfl; all_goals intro hb; all_goals (try simp only [hb]); all_goals (first | replace hb := of_decide_eq_true hb | replace hb := of_decide_eq_false hb | replace hb := bne_t hb | replace hb := bne_f hb | skip); all_goals (try (exfalso; omega)))
      | (apply aw_cond; exact rfl; all_goals intro hb; all_goals (try simp only [hb]); all_goals (first | replace hb := of_decide_eq_true hb | replace hb := of_decide_eq_false hb | replace hb := bne_t hb | replace hb := bne_f hb | skip); all_goals (try (exfalso; omega))))
    all_goals try (exfalso; omega)
    refine aw_loop (α := Nat) (E := fun k => [(2, .int .i64 (q - min q (totL ((v.map pqL).take k)))), (6, .pointer (some ⟨g6, 0, none⟩)), (25, .slice AL v.length cL), (26, .int .i64 v.length), (27, .int .i64 k)])
      (H := fun k => .blk g6 58 (wideE (costL ((v.map pqL).take k) q).toNat) :: .own AL v.length cL 35 2 (v.flatMap Lvl.enc) :: h') (μ := fun k => v.length - k)
      (S := fun k => k ≤ v.length) 0 (J := []) (Nat.zero_le _) ⟨by rw [List.take_zero, show q - min q (totL []) = q by simp [totL]; omega]; rfl, rfl, rfl, rfl, rfl, trivial⟩ (by rw [List.take_zero, show (costL [] q).toNat = 0 from rfl]; exact sel1) ?_
    intro k hk
    by_cases hlt : k < v.length
    · obtain ⟨x, hx⟩ : ∃ x, v[k]? = some x := ⟨v[k]'(by omega), List.getElem?_eq_getElem (by omega)⟩
      have hx2 : v[(k : Int).toNat]? = some x := by simpa using hx
      have hA := hfL.some_ (by omega)
      have hd1 : decide ((k : Int) < (v.length : Int)) = true := by simp; omega
      have hxm : (v.map pqL)[k]? = some (x.price, x.qty) := by simp [hx, pqL]
      have hxo := hok _ (List.mem_of_getElem? hxm)
      obtain ⟨st1, st2⟩ := cost_step hok hxm (q := q) (by omega)
      dsimp only at st1 st2 hxo
      have hb0 := costL_bound (okP_take hok k) (q := q) (by omega)
      have ht0 := totL_pos (okP_take hok k)
      generalize costL ((v.map pqL).take k) q = co at hb0 st1 ⊢
      generalize totL ((v.map pqL).take k) = tk at hb0 ht0 st1 st2 ⊢
      generalize hn : min (q - min q tk) x.qty = n at st1 st2
      have hsb := step_bd (n := n) hxo.1 hxo.2.1 (by omega)
      have hTm := fix_TimesI W x.price n (by omega) (by omega)
      have hPl := fix_Plus W co.toNat (x.price * n).toNat (by omega)
      rw [show co.toNat + (x.price * n).toNat = (co + x.price * n).toNat by omega] at hPl
      repeat' (first
        | apply aw_seq | apply aw_region | apply aw_ret | apply aw_skip | apply aw_exit | apply aw_block | apply es_nil
        | (apply es_pure hT; (iterate 4 exact rfl)) | (apply es_skip; (iterate 3 exact rfl)) | (apply es_skip0; (iterate 2 exact rfl))
        | (apply es_i64 hT; (iterate 4 exact rfl); (iterate 2 omega))
        | (apply aw_draw [] [] hmix; decide +kernel)
        | (apply es_idx hT; (iterate 8 exact rfl); (iterate 2 omega); exact hA)
        | (apply es_load; (iterate 5 exact rfl); exact ld_elem hT rfl rfl (hfL.reads mem1) Lvl.enc_len rfl hx2 rfl)
        | (apply es_alloc hT; (iterate 5 exact rfl); intro g7)
        | (apply es_min; (iterate 5 exact rfl); rw [hn])
        | (apply es_callQ (hs := (hTm.mono (by simp))); (iterate 7 exact rfl))
        | (apply es_callQ (hs := (hPl.mono (by simp))); (iterate 7 exact rfl))
        | (apply es_store hT; (iterate 6 exact rfl); (repeat (first | exact sel0 | apply selS)); (iterate 3 exact rfl); exact Nat.le_of_ble_eq_true rfl)
        | (apply es_load; (iterate 5 exact rfl); first | (apply ld_blk hT; exact rfl; exact rfl; (repeat (first | exact List.mem_cons_self | apply List.mem_cons_of_mem)); exact rfl; exact rfl) | (apply ld_all hT; exact rfl; exact rfl; (repeat (first | exact List.mem_cons_self | apply List.mem_cons_of_mem)); exact rfl))
        | (apply es_box; (iterate 5 exact rfl); intro _) | (apply es_alloc hT; (iterate 5 exact rfl); intro _)
        | (apply aw_condT; (iterate 2 exact rfl)) | (apply aw_condF; (iterate 2 exact rfl))
        | (apply es_case; exact rfl; all_goals intro hb; all_goals (try simp only [hb]); all_goals (first | replace hb := of_decide_eq_true hb | replace hb := of_decide_eq_false hb | replace hb := bne_t hb | replace hb := bne_f hb | skip); all_goals (try (exfalso; omega)))
        | (apply aw_cond; exact rfl; all_goals intro hb; all_goals (try simp only [hb]); all_goals (first | replace hb := of_decide_eq_true hb | replace hb := of_decide_eq_false hb | replace hb := bne_t hb | replace hb := bne_f hb | skip); all_goals (try (exfalso; omega))))
      all_goals first
        | (exfalso; omega)
        | (refine loopq_end (k + 1) (by (try dsimp only); omega) (by (try dsimp only); omega) ⟨by (try dsimp only); rw [st2]; rfl, rfl, rfl, rfl, rfl, trivial⟩ ?_
           (try dsimp only)
           rw [st1]
           apply dt_cons; (repeat (first | exact sel0 | apply selS))
           apply dt_cons; (repeat (first | exact sel0 | apply selS))
           (repeat (first | exact dt_end | apply dt_skip)))
        | skip
    · obtain rfl : k = v.length := by omega
      have hd1 : decide ((v.length : Int) < (v.length : Int)) = false := by simp
      have e : (v.map pqL).take v.length = v.map pqL := List.take_of_length_le (by simp)
      rw [e]
      repeat' (first
        | apply aw_seq | apply aw_region | apply aw_ret | apply aw_skip | apply aw_exit | apply aw_block | apply es_nil
        | (apply es_pure hT; (iterate 4 exact rfl)) | (apply es_skip; (iterate 3 exact rfl)) | (apply es_skip0; (iterate 2 exact rfl))
        | (apply es_i64 hT; (iterate 4 exact rfl); (iterate 2 omega))
        | (apply aw_draw [] [] hmix; decide +kernel)
        | (apply es_store hT; (iterate 6 exact rfl); (repeat (first | exact sel0 | apply selS)); (iterate 3 exact rfl); exact Nat.le_of_ble_eq_true rfl)
        | (apply es_load; (iterate 5 exact rfl); first | (apply ld_blk hT; exact rfl; exact rfl; (repeat (first | exact List.mem_cons_self | apply List.mem_cons_of_mem)); exact rfl; exact rfl) | (apply ld_all hT; exact rfl; exact rfl; (repeat (first | exact List.mem_cons_self | apply List.mem_cons_of_mem)); exact rfl))
        | (apply es_box; (iterate 5 exact rfl); intro _) | (apply es_alloc hT; (iterate 5 exact rfl); intro _)
        | (apply aw_condT; (iterate 2 exact rfl)) | (apply aw_condF; (iterate 2 exact rfl))
        | (apply es_case; exact rfl; all_goals intro hb; all_goals (try simp only [hb]); all_goals (first | replace hb := of_decide_eq_true hb | replace hb := of_decide_eq_false hb | replace hb := bne_t hb | replace hb := bne_f hb | skip); all_goals (try (exfalso; omega)))
        | (apply aw_cond; exact rfl; all_goals intro hb; all_goals (try simp only [hb]); all_goals (first | replace hb := of_decide_eq_true hb | replace hb := of_decide_eq_false hb | replace hb := bne_t hb | replace hb := bne_f hb | skip); all_goals (try (exfalso; omega))))
      all_goals first
        | (exfalso; omega)
        | (apply ret2c; exact rfl; exact ld_all hT rfl rfl mem0 rfl; exact rfl; exact ⟨rfl, by (repeat (first | exact dt_end | apply dt_skip))⟩)
        | skip
end Go.Proofs.Ytiefkpfamkkapaa
