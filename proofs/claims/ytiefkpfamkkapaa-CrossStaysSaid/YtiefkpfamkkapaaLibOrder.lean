/- Contracts of Go's library functions over slices, at the element type Order. Conditions stand in each statement. -/
import Derived.Test.YtiefkpfamkkapaaCmp
set_option linter.unusedSimpArgs false
set_option linter.unusedVariables false
namespace Go.Proofs.Ytiefkpfamkkapaa
open Go Go.Sl
attribute [local irreducible] AW ES Ld RetQ
set_option maxRecDepth 100000

theorem indexFuncOrder (W : World) (h : List Chunk) (A : Option Addr) (n c : Nat) (l : List Order) (hn : l.length = n) (hr : Reads W h A n 6 (l.flatMap Order.enc)) (fn : FuncId) (cap : List Value) (p : Order → Bool)
    (hf : ∀ x ∈ l, QSpec Try.prog W fn ([.agg x.enc.toArray] ++ cap) h (.bool (p x))) (hb : n ≤ 4611686018427387903) :
    QSpec Try.prog W 98 [.slice A n c, .func (.func fn) #[] cap.toArray] h (.int .i64 (idxOf p l)) := by
  refine QSpec.of (fun h' hs => ?_)
  have hr' := hr.mono hs
  refine spec_body Try.func98 rfl rfl Try.results98 Try.ntmps98 rfl rfl ?_
  refine aw_reads hr' rfl (fun hA => ?_)
  repeat' (first
    | apply aw_seq | apply aw_region | apply aw_ret | apply aw_skip | apply aw_exit | apply aw_block | apply es_nil
    | (apply es_pure hT; (iterate 4 exact rfl)) | (apply es_skip; (iterate 3 exact rfl)) | (apply es_skip0; (iterate 2 exact rfl))
    | (apply es_i64 hT; (iterate 4 exact rfl); (iterate 2 omega))
    | (apply aw_draw [] [] hmix; decide +kernel)
    | (apply es_load; (iterate 5 exact rfl); first | exact ld_blk hT rfl rfl mem0 rfl rfl | exact ld_all hT rfl rfl mem0 rfl)
    | (apply es_load; (iterate 5 exact rfl); first | exact ld_blk hT rfl rfl mem1 rfl rfl | exact ld_all hT rfl rfl mem1 rfl)
    | (apply es_load; (iterate 5 exact rfl); first | exact ld_blk hT rfl rfl mem2 rfl rfl | exact ld_all hT rfl rfl mem2 rfl)
    | (apply es_box; (iterate 5 exact rfl); intro _) | (apply es_alloc hT; (iterate 5 exact rfl); intro _)
    | (apply aw_condT; (iterate 2 exact rfl)) | (apply aw_condF; (iterate 2 exact rfl))
    | (apply es_case; exact rfl; all_goals intro hb; all_goals (try simp only [hb]); all_goals (first | replace hb := of_decide_eq_true hb | replace hb := of_decide_eq_false hb | replace hb := bne_t hb | replace hb := bne_f hb | skip); all_goals (try (exfalso; omega)))
    | (apply aw_cond; exact rfl; all_goals intro hb; all_goals (try simp only [hb]); all_goals (first | replace hb := of_decide_eq_true hb | replace hb := of_decide_eq_false hb | replace hb := bne_t hb | replace hb := bne_f hb | skip); all_goals (try (exfalso; omega))))
  refine aw_loop (α := Nat) (E := fun k => [(0, .slice A n c), (1, .func (.func fn) #[] cap.toArray), (7, .int .i64 n), (8, .int .i64 k)]) (H := fun _ => h') (μ := fun k => n - k)
    (S := fun k => k ≤ n ∧ ∀ (j : Nat) y, j < k → l[j]? = some y → p y = false) 0 (J := []) ⟨Nat.zero_le _, fun j y hj => by omega⟩ ⟨rfl, rfl, rfl, rfl, trivial⟩ (List.Perm.refl _) ?_
  rintro k ⟨hk1, hk2⟩
  by_cases hlt : k < n
  · obtain ⟨x, hx⟩ : ∃ x, l[k]? = some x := ⟨l[k]'(by omega), List.getElem?_eq_getElem (by omega)⟩
    have hx2 : l[(k : Int).toNat]? = some x := by simpa using hx
    have hfx := (hf x (List.mem_of_getElem? hx)).mono hs
    have hA' := hA (by omega)
    repeat' (first
      | apply aw_seq | apply aw_region | apply aw_ret | apply aw_skip | apply aw_exit | apply aw_block | apply es_nil
      | (apply es_pure hT; (iterate 4 exact rfl)) | (apply es_skip; (iterate 3 exact rfl)) | (apply es_skip0; (iterate 2 exact rfl))
      | (apply es_i64 hT; (iterate 4 exact rfl); (iterate 2 omega))
      | (apply aw_draw [] [] hmix; decide +kernel)
      | (apply es_idx hT; (iterate 8 exact rfl); (iterate 2 omega); exact hA')
      | (apply es_load; (iterate 5 exact rfl); exact ld_elem hT rfl rfl hr' Order.enc_len rfl hx2 rfl)
      | (apply es_callQ (hs := hfx); (iterate 7 exact rfl))
      | (apply es_load; (iterate 5 exact rfl); first | exact ld_blk hT rfl rfl mem0 rfl rfl | exact ld_all hT rfl rfl mem0 rfl)
      | (apply es_load; (iterate 5 exact rfl); first | exact ld_blk hT rfl rfl mem1 rfl rfl | exact ld_all hT rfl rfl mem1 rfl)
      | (apply es_load; (iterate 5 exact rfl); first | exact ld_blk hT rfl rfl mem2 rfl rfl | exact ld_all hT rfl rfl mem2 rfl)
      | (apply es_box; (iterate 5 exact rfl); intro _) | (apply es_alloc hT; (iterate 5 exact rfl); intro _)
      | (apply aw_condT; (iterate 2 exact rfl)) | (apply aw_condF; (iterate 2 exact rfl))
      | (apply es_case; exact rfl; all_goals intro hb; all_goals (try simp only [hb]); all_goals (first | replace hb := of_decide_eq_true hb | replace hb := of_decide_eq_false hb | replace hb := bne_t hb | replace hb := bne_f hb | skip); all_goals (try (exfalso; omega)))
      | (apply aw_cond; exact rfl; all_goals intro hb; all_goals (try simp only [hb]); all_goals (first | replace hb := of_decide_eq_true hb | replace hb := of_decide_eq_false hb | replace hb := bne_t hb | replace hb := bne_f hb | skip); all_goals (try (exfalso; omega))))
    · exact retQ1 (J := []) rfl (by rw [idxOf_at hx hb hk2]) (List.Perm.refl _)
    · have hpx := hb
      refine ⟨k + 1, [], by dsimp only; omega, ⟨by omega, fun j y hj hy => ?_⟩, ⟨rfl, rfl, rfl, rfl, trivial⟩, List.Perm.refl _⟩
      by_cases hjk : j < k
      · exact hk2 j y hjk hy
      · obtain rfl : j = k := by omega
        rw [hx] at hy; cases hy; exact hpx
  · repeat' (first
      | apply aw_seq | apply aw_region | apply aw_ret | apply aw_skip | apply aw_exit | apply aw_block | apply es_nil
      | (apply es_pure hT; (iterate 4 exact rfl)) | (apply es_skip; (iterate 3 exact rfl)) | (apply es_skip0; (iterate 2 exact rfl))
      | (apply es_i64 hT; (iterate 4 exact rfl); (iterate 2 omega))
      | (apply aw_draw [] [] hmix; decide +kernel)
      | (apply es_load; (iterate 5 exact rfl); first | exact ld_blk hT rfl rfl mem0 rfl rfl | exact ld_all hT rfl rfl mem0 rfl)
      | (apply es_load; (iterate 5 exact rfl); first | exact ld_blk hT rfl rfl mem1 rfl rfl | exact ld_all hT rfl rfl mem1 rfl)
      | (apply es_load; (iterate 5 exact rfl); first | exact ld_blk hT rfl rfl mem2 rfl rfl | exact ld_all hT rfl rfl mem2 rfl)
      | (apply es_box; (iterate 5 exact rfl); intro _) | (apply es_alloc hT; (iterate 5 exact rfl); intro _)
      | (apply aw_condT; (iterate 2 exact rfl)) | (apply aw_condF; (iterate 2 exact rfl))
      | (apply es_case; exact rfl; all_goals intro hb; all_goals (try simp only [hb]); all_goals (first | replace hb := of_decide_eq_true hb | replace hb := of_decide_eq_false hb | replace hb := bne_t hb | replace hb := bne_f hb | skip); all_goals (try (exfalso; omega)))
      | (apply aw_cond; exact rfl; all_goals intro hb; all_goals (try simp only [hb]); all_goals (first | replace hb := of_decide_eq_true hb | replace hb := of_decide_eq_false hb | replace hb := bne_t hb | replace hb := bne_f hb | skip); all_goals (try (exfalso; omega))))
    exact retQ1 (J := []) rfl (by rw [idxOf_none (fun (j : Nat) y hj => hk2 j y (by have := (List.getElem?_eq_some_iff.1 hj).1; omega) hj)]) (List.Perm.refl _)

theorem containsFuncOrder (W : World) (h : List Chunk) (A : Option Addr) (n c : Nat) (l : List Order) (hn : l.length = n) (hr : Reads W h A n 6 (l.flatMap Order.enc)) (fn : FuncId) (cap : List Value) (p : Order → Bool)
    (hf : ∀ x ∈ l, QSpec Try.prog W fn ([.agg x.enc.toArray] ++ cap) h (.bool (p x))) (hb : n ≤ 4611686018427387903) :
    QSpec Try.prog W 77 [.slice A n c, .func (.func fn) #[] cap.toArray] h (.bool (decide (idxOf p l ≥ 0))) := by
  refine QSpec.of (fun h' hs => ?_)
  refine spec_body Try.func77 rfl rfl Try.results77 Try.ntmps77 rfl rfl ?_
  repeat' (first
    | apply aw_seq | apply aw_region | apply aw_ret | apply aw_skip | apply aw_exit | apply aw_block | apply es_nil
    | (apply es_pure hT; (iterate 4 exact rfl)) | (apply es_skip; (iterate 3 exact rfl)) | (apply es_skip0; (iterate 2 exact rfl))
    | (apply es_i64 hT; (iterate 4 exact rfl); (iterate 2 omega))
    | (apply aw_draw [] [] hmix; decide +kernel)
    | (apply es_callQ (hs := ((indexFuncOrder W h A n c l hn hr fn cap p hf hb).mono hs)); (iterate 7 exact rfl))
    | (apply es_load; (iterate 5 exact rfl); first | exact ld_blk hT rfl rfl mem0 rfl rfl | exact ld_all hT rfl rfl mem0 rfl)
    | (apply es_load; (iterate 5 exact rfl); first | exact ld_blk hT rfl rfl mem1 rfl rfl | exact ld_all hT rfl rfl mem1 rfl)
    | (apply es_load; (iterate 5 exact rfl); first | exact ld_blk hT rfl rfl mem2 rfl rfl | exact ld_all hT rfl rfl mem2 rfl)
    | (apply es_box; (iterate 5 exact rfl); intro _) | (apply es_alloc hT; (iterate 5 exact rfl); intro _)
    | (apply aw_condT; (iterate 2 exact rfl)) | (apply aw_condF; (iterate 2 exact rfl))
    | (apply es_case; exact rfl; all_goals intro hb; all_goals (try simp only [hb]); all_goals (first | replace hb := of_decide_eq_true hb | replace hb := of_decide_eq_false hb | replace hb := bne_t hb | replace hb := bne_f hb | skip); all_goals (try (exfalso; omega)))
    | (apply aw_cond; exact rfl; all_goals intro hb; all_goals (try simp only [hb]); all_goals (first | replace hb := of_decide_eq_true hb | replace hb := of_decide_eq_false hb | replace hb := bne_t hb | replace hb := bne_f hb | skip); all_goals (try (exfalso; omega))))
  exact retQ1 (J := []) rfl rfl (List.Perm.refl _)

theorem deleteOrder (W : World) (F : List Chunk) (A : Option Addr) (n c : Nat) (i j : Int) (cs : List Value) (h0 : 0 ≤ i) (hij : i ≤ j) (hjn : j ≤ n) :
    FSpec Try.prog W 82 [.slice A n c, .int .i64 i, .int .i64 j] (.own A n c 29 6 cs :: F)
      (fun v h' => v = .slice A (n - (j.toNat - i.toNat)) c ∧ h' = .own A (n - (j.toNat - i.toNat)) c 29 6 (cs.take (i.toNat * 6) ++ cs.drop (j.toNat * 6)) :: F) := by
  obtain ⟨i, rfl⟩ := Int.eq_ofNat_of_zero_le h0
  obtain ⟨j, rfl⟩ := Int.eq_ofNat_of_zero_le (show 0 ≤ j by omega)
  simp only [Int.toNat_natCast]
  by_cases hij0 : i = j
  · subst hij0
    have he : ((i : Int) == (i : Int)) = true := by simp
    refine spec_body Try.func82 rfl rfl Try.results82 Try.ntmps82 rfl rfl ?_
    refine aw_fact mem0 (fun hl hnc hcc hsome hnone hone => ?_)
    repeat' (first
      | apply aw_seq | apply aw_region | apply aw_ret | apply aw_skip | apply aw_exit | apply aw_block | apply es_nil
      | (apply es_pure hT; (iterate 4 exact rfl)) | (apply es_skip; (iterate 3 exact rfl)) | (apply es_skip0; (iterate 2 exact rfl))
      | (apply es_i64 hT; (iterate 4 exact rfl); (iterate 2 omega))
      | (apply aw_draw [] [] hmix; decide +kernel)
      | (apply es_slice3 hT; (iterate 10 exact rfl); (iterate 3 omega))
      | (apply aw_condT; exact rfl; exact he)
      | (apply es_load; (iterate 5 exact rfl); first | exact ld_blk hT rfl rfl mem0 rfl rfl | exact ld_all hT rfl rfl mem0 rfl)
      | (apply es_load; (iterate 5 exact rfl); first | exact ld_blk hT rfl rfl mem1 rfl rfl | exact ld_all hT rfl rfl mem1 rfl)
      | (apply es_load; (iterate 5 exact rfl); first | exact ld_blk hT rfl rfl mem2 rfl rfl | exact ld_all hT rfl rfl mem2 rfl)
      | (apply es_box; (iterate 5 exact rfl); intro _) | (apply es_alloc hT; (iterate 5 exact rfl); intro _)
      | (apply aw_condT; (iterate 2 exact rfl)) | (apply aw_condF; (iterate 2 exact rfl))
      | (apply es_case; exact rfl; all_goals intro hb; all_goals (try simp only [hb]); all_goals (first | replace hb := of_decide_eq_true hb | replace hb := of_decide_eq_false hb | replace hb := bne_t hb | replace hb := bne_f hb | skip); all_goals (try (exfalso; omega)))
      | (apply aw_cond; exact rfl; all_goals intro hb; all_goals (try simp only [hb]); all_goals (first | replace hb := of_decide_eq_true hb | replace hb := of_decide_eq_false hb | replace hb := bne_t hb | replace hb := bne_f hb | skip); all_goals (try (exfalso; omega))))
    apply ret1; exact rfl
    exact ⟨by simp, by simp⟩
  · have he : ((i : Int) == (j : Int)) = false := by simp; omega
    have hlt : i < j := by omega
    have hz : (ti29.zero.cells.toList).length = 6 := rfl
    refine FSpec.conv (R := fun v h' => v = .slice A (n - (j - i)) c ∧ ∃ (g : Nat) (cur : List Value), A = some ⟨g, 0, none⟩ ∧ cur.length = c * 6 ∧ cur.take (n * 6) = cs ∧ cs.length = n * 6 ∧ n ≤ c ∧ c ≤ 9223372036854775807 ∧ (∀ v ∈ cs, v.oneCell' = true) ∧
      h' = .blk g 29 (lay (lay cur (i * 6) (cs.drop (j * 6))) ((i + (n - j)) * 6) (repZ ti29.zero.cells.toList (n - (i + (n - j))))) :: F) ?_ ?_
    rotate_left
    · rintro v h' ⟨hv, g, cur, rfl, hcl, htk, hl, hnc, hcc, hone, rfl⟩ w hw
      have hdl : (cs.drop (j * 6)).length = (n - j) * 6 := by rw [List.length_drop, hl, Nat.sub_mul]
      have hyl : (lay cur (i * 6) (cs.drop (j * 6))).length = c * 6 := by rw [lay_len (by omega)]; exact hcl
      have hzl : (repZ ti29.zero.cells.toList (n - (i + (n - j)))).length = (n - (i + (n - j))) * 6 := by rw [repZ_len, hz]
      have hcut : (lay (lay cur (i * 6) (cs.drop (j * 6))) ((i + (n - j)) * 6) (repZ ti29.zero.cells.toList (n - (i + (n - j))))).take ((n - (j - i)) * 6) = cs.take (i * 6) ++ cs.drop (j * 6) := by
        rw [show (n - (j - i)) * 6 = (i + (n - j)) * 6 by omega, take_lay_off (by omega)]
        have := take_lay_mid (Y := cur) (Z := cs.drop (j * 6)) (o := i * 6) (by omega)
        rw [hdl, ← Nat.add_mul] at this
        rw [this, ← htk, List.take_take, Nat.min_eq_left (by omega)]
      refine ⟨_, hw.shut_ (n := n - (j - i)) (c := c) (k := 6) ?_ hcut ?_ (by omega) hcc ?_, hv, rfl⟩
      · rw [lay_len (by omega)]; exact hyl
      · rw [List.length_append, hdl, List.length_take, hl]; omega
      · intro u hu
        rcases List.mem_append.1 hu with hu | hu
        · exact hone u (List.mem_of_mem_take hu)
        · exact hone u (List.mem_of_mem_drop hu)
    refine spec_body Try.func82 rfl rfl Try.results82 Try.ntmps82 rfl rfl ?_
    refine aw_fact mem0 (fun hl hnc hcc hsome hnone hone => ?_)
    obtain ⟨g, rfl⟩ := hsome (by omega)
    refine aw_open sel0 (fun cur hcl htk _ _ _ _ => ?_)
    have hr0 : Reads W (.blk g 29 cur :: F) (some ⟨g, 0, none⟩) n 6 cs := Reads.blk mem0 (by simpa using htk) hl hone
    have hr1 := hr0.cut hnc (show j ≤ n by omega) (Nat.le_refl n)
    rw [List.take_of_length_le (by rw [List.length_drop, hl, Nat.sub_mul]; omega)] at hr1
    have hdl : (cs.drop (j * 6)).length = (n - j) * 6 := hr1.len
    have hyl : (lay cur (i * 6) (cs.drop (j * 6))).length = c * 6 := by rw [lay_len (by omega)]; exact hcl
    repeat' (first
      | apply aw_seq | apply aw_region | apply aw_ret | apply aw_skip | apply aw_exit | apply aw_block | apply es_nil
      | (apply es_pure hT; (iterate 4 exact rfl)) | (apply es_skip; (iterate 3 exact rfl)) | (apply es_skip0; (iterate 2 exact rfl))
      | (apply es_i64 hT; (iterate 4 exact rfl); (iterate 2 omega))
      | (apply aw_draw [] [] hmix; decide +kernel)
      | (apply es_slice3 hT; (iterate 10 exact rfl); (iterate 3 omega))
      | (apply aw_condF; exact rfl; exact he)
      | (apply es_sliceTo hT; (iterate 8 exact rfl); (iterate 2 omega))
      | (apply es_sliceFrom hT; (iterate 8 exact rfl); (iterate 3 omega); exact rfl)
      | (apply es_appendR hT (k := 6); (iterate 11 exact rfl); exact sel0; exact hr1; omega; (show i * 6 + (n - j) * 6 ≤ _; omega))
      | (apply es_sliceBoth hT; (iterate 9 exact rfl); (iterate 3 omega); exact cutA_ne (by omega))
      | (apply es_clear hT (k := 6); (iterate 9 exact rfl); exact sel0; exact rfl; (show (i + (n - j)) * 6 + (n - (i + (n - j))) * 6 ≤ (lay cur (i * 6) (cs.drop (j * 6))).length; omega))
      | (apply es_load; (iterate 5 exact rfl); first | exact ld_blk hT rfl rfl mem0 rfl rfl | exact ld_all hT rfl rfl mem0 rfl)
      | (apply es_load; (iterate 5 exact rfl); first | exact ld_blk hT rfl rfl mem1 rfl rfl | exact ld_all hT rfl rfl mem1 rfl)
      | (apply es_load; (iterate 5 exact rfl); first | exact ld_blk hT rfl rfl mem2 rfl rfl | exact ld_all hT rfl rfl mem2 rfl)
      | (apply es_box; (iterate 5 exact rfl); intro _) | (apply es_alloc hT; (iterate 5 exact rfl); intro _)
      | (apply aw_condT; (iterate 2 exact rfl)) | (apply aw_condF; (iterate 2 exact rfl))
      | (apply es_case; exact rfl; all_goals intro hb; all_goals (try simp only [hb]); all_goals (first | replace hb := of_decide_eq_true hb | replace hb := of_decide_eq_false hb | replace hb := bne_t hb | replace hb := bne_f hb | skip); all_goals (try (exfalso; omega)))
      | (apply aw_cond; exact rfl; all_goals intro hb; all_goals (try simp only [hb]); all_goals (first | replace hb := of_decide_eq_true hb | replace hb := of_decide_eq_false hb | replace hb := bne_t hb | replace hb := bne_f hb | skip); all_goals (try (exfalso; omega))))
    apply ret1; exact rfl
    exact ⟨by rw [show n - (j - i) = i + (n - j) by omega]; rfl, g, cur, rfl, hcl, htk, hl, hnc, hcc, hone, rfl⟩
end Go.Proofs.Ytiefkpfamkkapaa
