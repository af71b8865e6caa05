/- The first steps of the statement CrossStays: all that is left of all orders. Conditions stand in each statement. -/
import Derived.Test.YtiefkpfamkkapaaCrossT
set_option linter.unusedSimpArgs false
set_option linter.unusedVariables false
namespace Go.Proofs.Ytiefkpfamkkapaa
open Go Go.Sl
attribute [local irreducible] AW ES EP Ld RetQ
set_option maxRecDepth 100000

theorem sumV_take {v : List Lvl} (h : ∀ x ∈ v, 1 ≤ x.qty) : ∀ k, 0 ≤ sumV (v.take k) ∧ sumV (v.take k) ≤ sumV v := by
  induction v with
  | nil => intro k; simp [sumV]
  | cons x v ih =>
    intro k
    have hx := h x List.mem_cons_self
    have h0 := ih (fun f hf => h f (List.mem_cons_of_mem _ hf)) 0
    have e : ∀ u : List Lvl, sumV (x :: u) = x.qty + sumV u := fun u => by simp [sumV]
    have z : sumV [] = 0 := rfl
    cases k with
    | zero => rw [List.take_zero, e, z]; rw [List.take_zero, z] at h0; omega
    | succ k => have := ih (fun f hf => h f (List.mem_cons_of_mem _ hf)) k; rw [List.take_succ_cons, e, e]; omega
def accS (l : List Order) (k : Nat) : Int := if k ≤ 1 then 0 else if k ≤ 2 then allS 1 l else allS 1 l + allS 2 l
theorem accS_step {l : List Order} {k : Nat} (h : k = 1 ∨ k = 2) : accS l (k + 1) = accS l k + sumV (levelsO (sideO k l)) := by
  have e : ∀ s : Int, allS s l = sumV (levelsO (sideO s l)) := fun s => by rw [levels_sum, allS, totL_sum]
  rcases h with rfl | rfl
  · show allS 1 l = 0 + _; rw [e]; simp
  · show allS 1 l + allS 2 l = allS 1 l + _; rw [e 2]; rfl
set_option maxHeartbeats 2000000 in
theorem law15_all (W : World) (p : Nat) (A : Option Addr) (c : Nat) (l : List Order) (hB : BookB l) :
    QSpec Try.prog W 75 [.pointer (some ⟨p, 0, none⟩)] (bookTab p A c l []) (.int .i64 (sumL l)) := by
  refine QSpec.ofD (fun h' hs => ?_)
  have m1 := hs _ mem0
  have m2 := hs _ mem1
  have hlev := fun s => book_Levels W h' p A c l s m1 m2 hB.le hB.seq hB.side hB.left
  have hsum := side_sum hB
  have hb1 := allS_bd hB 1
  have hb2 := allS_bd hB 2
  have hbl := hB.len
  refine spec_body Try.func75 rfl rfl Try.results75 Try.ntmps75 rfl rfl ?_
  repeat' (first
    | apply aw_seq | apply aw_region | apply aw_ret | apply aw_skip | apply aw_exit | apply aw_block | apply es_nil
    | (apply es_pure hT; (iterate 4 exact rfl)) | (apply es_skip; (iterate 3 exact rfl)) | (apply es_skip0; (iterate 2 exact rfl))
    | (apply es_i64 hT; (iterate 4 exact rfl); (iterate 2 (first | omega | (dsimp only; omega))))
    | (apply aw_draw [] [] hmix; decide +kernel)
    | (apply es_load; (iterate 5 exact rfl); first | (apply ld_blk hT; exact rfl; exact rfl; (repeat (first | exact List.mem_cons_self | apply List.mem_cons_of_mem)); exact rfl; exact rfl) | (apply ld_all hT; exact rfl; exact rfl; (repeat (first | exact List.mem_cons_self | apply List.mem_cons_of_mem)); exact rfl))
    | (apply es_box; (iterate 5 exact rfl); intro _) | (apply es_alloc hT; (iterate 5 exact rfl); intro _)
    | (apply aw_condT; (iterate 2 exact rfl)) | (apply aw_condF; (iterate 2 exact rfl))
    | (apply es_case; exact rfl; all_goals intro hb; all_goals (fail_if_success (change true = true at hb)); all_goals (fail_if_success (change false = false at hb)); all_goals (try dsimp only at hb); all_goals (try simp only [hb]); all_goals (first | replace hb := of_decide_eq_true hb | replace hb := of_decide_eq_false hb | replace hb := bne_t hb | replace hb := bne_f hb | replace hb := eq_of_beq hb | replace hb := ne_of_beq_false hb | skip); all_goals (try (exfalso; omega)))
    | (apply aw_cond; exact rfl; all_goals intro hb; all_goals (try dsimp only at hb); all_goals (try simp only [hb]); all_goals (first | replace hb := of_decide_eq_true hb | replace hb := of_decide_eq_false hb | replace hb := bne_t hb | replace hb := bne_f hb | replace hb := eq_of_beq hb | replace hb := ne_of_beq_false hb | skip); all_goals (try (exfalso; omega))))
  refine aw_loopD (α := Nat) (E := fun k => [(0, .pointer (some ⟨p, 0, none⟩)), (3, .int .i64 (accS l k)), (4, .int .i64 k)]) (H := fun _ => h') (μ := fun k => 3 - k)
    (S := fun k => 1 ≤ k ∧ k ≤ 3) 1 ⟨by omega, by omega⟩ ⟨rfl, rfl, rfl, trivial⟩ (by (repeat (first | exact dt_end | (apply dt_cons; · (repeat (first | exact sel0 | apply selS))) | apply dt_skip))) ?_
  intro k hk
  by_cases hlt : k ≤ 2
  · have hd1 : decide ((k : Int) ≤ 2) = true := by simp; omega
    have hL := hlev k
    have hst := accS_step (l := l) (k := k) (by omega)
    have hbk : 0 ≤ accS l (k + 1) ∧ accS l (k + 1) ≤ 128000000 ∧ 0 ≤ accS l k := by
      unfold accS; split <;> split <;> (try split) <;> omega
    have hpos := levels_pos (o := sideO k l) (fun x hx => hB.left x (sideO_side hx).1) (by have := sideO_len k l; omega)
    have hvl := levels_len (sideO k l)
    have hsl := sideO_len k l
    generalize levelsO (sideO k l) = v at hL hst hpos hvl
    have htk := sumV_take (fun x hx => (hpos x hx).1)
    repeat' (first
      | apply aw_seq | apply aw_region | apply aw_ret | apply aw_skip | apply aw_exit | apply aw_block | apply es_nil
      | (apply es_pure hT; (iterate 4 exact rfl)) | (apply es_skip; (iterate 3 exact rfl)) | (apply es_skip0; (iterate 2 exact rfl))
      | (apply es_i64 hT; (iterate 4 exact rfl); (iterate 2 (first | omega | (dsimp only; omega))))
      | (apply aw_draw [] [] hmix; decide +kernel)
      | (apply es_call (hs := hL); (iterate 7 exact rfl); rintro _ _ ⟨AL, cL, rfl, rfl, hfL⟩)
      | (apply es_load; (iterate 5 exact rfl); first | (apply ld_blk hT; exact rfl; exact rfl; (repeat (first | exact List.mem_cons_self | apply List.mem_cons_of_mem)); exact rfl; exact rfl) | (apply ld_all hT; exact rfl; exact rfl; (repeat (first | exact List.mem_cons_self | apply List.mem_cons_of_mem)); exact rfl))
      | (apply es_box; (iterate 5 exact rfl); intro _) | (apply es_alloc hT; (iterate 5 exact rfl); intro _)
      | (apply aw_condT; (iterate 2 exact rfl)) | (apply aw_condF; (iterate 2 exact rfl))
      | (apply es_case; exact rfl; all_goals intro hb; all_goals (fail_if_success (change true = true at hb)); all_goals (fail_if_success (change false = false at hb)); all_goals (try dsimp only at hb); all_goals (try simp only [hb]); all_goals (first | replace hb := of_decide_eq_true hb | replace hb := of_decide_eq_false hb | replace hb := bne_t hb | replace hb := bne_f hb | replace hb := eq_of_beq hb | replace hb := ne_of_beq_false hb | skip); all_goals (try (exfalso; omega)))
      | (apply aw_cond; exact rfl; all_goals intro hb; all_goals (try dsimp only at hb); all_goals (try simp only [hb]); all_goals (first | replace hb := of_decide_eq_true hb | replace hb := of_decide_eq_false hb | replace hb := bne_t hb | replace hb := bne_f hb | replace hb := eq_of_beq hb | replace hb := ne_of_beq_false hb | skip); all_goals (try (exfalso; omega))))
    refine aw_loopD (α := Nat) (E := fun i => [(0, .pointer (some ⟨p, 0, none⟩)), (3, .int .i64 (accS l k + sumV (v.take i))), (4, .int .i64 k), (5, .slice AL v.length cL), (6, .int .i64 i)]) (H := fun _ => .own AL v.length cL 35 2 (v.flatMap Lvl.enc) :: h') (μ := fun i => v.length - i)
      (S := fun i => i ≤ v.length) 0 (Nat.zero_le _) ⟨rfl, by rw [show accS l k + sumV (v.take 0) = accS l k by simp [sumV]]; rfl, rfl, rfl, rfl, trivial⟩ (by (repeat (first | exact dt_end | (apply dt_cons; · (repeat (first | exact sel0 | apply selS))) | apply dt_skip))) ?_
    intro i hi
    by_cases hli : i < v.length
    · obtain ⟨x, hx⟩ : ∃ x, v[i]? = some x := ⟨v[i]'(by omega), List.getElem?_eq_getElem (by omega)⟩
      have hx2 : v[(i : Int).toNat]? = some x := by simpa using hx
      have hA := hfL.some_ (by omega)
      have hd2 : decide ((i : Int) < (v.length : Int)) = true := by simp; omega
      have hs1 := htk i
      have hs2 := htk (i + 1)
      have hsi : sumV (v.take (i + 1)) = sumV (v.take i) + x.qty := by rw [List.take_add_one, hx, sumV_append]; simp [sumV]
      rw [hsi] at hs2
      generalize sumV (v.take i) = si at hs1 hs2 hsi ⊢
      generalize accS l k = ak at hst hbk ⊢
      repeat' (first
        | apply aw_seq | apply aw_region | apply aw_ret | apply aw_skip | apply aw_exit | apply aw_block | apply es_nil
        | (apply es_pure hT; (iterate 4 exact rfl)) | (apply es_skip; (iterate 3 exact rfl)) | (apply es_skip0; (iterate 2 exact rfl))
        | (apply es_i64 hT; (iterate 4 exact rfl); (iterate 2 (first | omega | (dsimp only; omega))))
        | (apply aw_draw [] [] hmix; decide +kernel)
        | (apply es_idx hT; (iterate 8 exact rfl); (iterate 2 omega); exact hA)
        | (apply es_load; (iterate 5 exact rfl); exact ld_fld hT rfl rfl (hfL.reads mem0) Lvl.enc_len (adr_add _ _ _) hx2 (by decide) rfl)
        | (apply es_load; (iterate 5 exact rfl); first | (apply ld_blk hT; exact rfl; exact rfl; (repeat (first | exact List.mem_cons_self | apply List.mem_cons_of_mem)); exact rfl; exact rfl) | (apply ld_all hT; exact rfl; exact rfl; (repeat (first | exact List.mem_cons_self | apply List.mem_cons_of_mem)); exact rfl))
        | (apply es_box; (iterate 5 exact rfl); intro _) | (apply es_alloc hT; (iterate 5 exact rfl); intro _)
        | (apply aw_condT; (iterate 2 exact rfl)) | (apply aw_condF; (iterate 2 exact rfl))
        | (apply es_case; exact rfl; all_goals intro hb; all_goals (fail_if_success (change true = true at hb)); all_goals (fail_if_success (change false = false at hb)); all_goals (try dsimp only at hb); all_goals (try simp only [hb]); all_goals (first | replace hb := of_decide_eq_true hb | replace hb := of_decide_eq_false hb | replace hb := bne_t hb | replace hb := bne_f hb | replace hb := eq_of_beq hb | replace hb := ne_of_beq_false hb | skip); all_goals (try (exfalso; omega)))
        | (apply aw_cond; exact rfl; all_goals intro hb; all_goals (try dsimp only at hb); all_goals (try simp only [hb]); all_goals (first | replace hb := of_decide_eq_true hb | replace hb := of_decide_eq_false hb | replace hb := bne_t hb | replace hb := bne_f hb | replace hb := eq_of_beq hb | replace hb := ne_of_beq_false hb | skip); all_goals (try (exfalso; omega))))
      all_goals first
        | (exfalso; omega)
        | exact loopq_end (i + 1) (by (try dsimp only); omega) (by (try dsimp only); omega) ⟨rfl, by (try dsimp only); rw [hsi, ← Int.add_assoc]; rfl, rfl, rfl, rfl, trivial⟩ dt_end
        | skip
    · obtain rfl : i = v.length := by omega
      have hd2 : decide ((v.length : Int) < (v.length : Int)) = false := by simp
      rw [List.take_length, ← hst]
      repeat' (first
        | apply aw_seq | apply aw_region | apply aw_ret | apply aw_skip | apply aw_exit | apply aw_block | apply es_nil
        | (apply es_pure hT; (iterate 4 exact rfl)) | (apply es_skip; (iterate 3 exact rfl)) | (apply es_skip0; (iterate 2 exact rfl))
        | (apply es_i64 hT; (iterate 4 exact rfl); (iterate 2 (first | omega | (dsimp only; omega))))
        | (apply aw_draw [] [] hmix; decide +kernel)
        | (apply es_load; (iterate 5 exact rfl); first | (apply ld_blk hT; exact rfl; exact rfl; (repeat (first | exact List.mem_cons_self | apply List.mem_cons_of_mem)); exact rfl; exact rfl) | (apply ld_all hT; exact rfl; exact rfl; (repeat (first | exact List.mem_cons_self | apply List.mem_cons_of_mem)); exact rfl))
        | (apply es_box; (iterate 5 exact rfl); intro _) | (apply es_alloc hT; (iterate 5 exact rfl); intro _)
        | (apply aw_condT; (iterate 2 exact rfl)) | (apply aw_condF; (iterate 2 exact rfl))
        | (apply es_case; exact rfl; all_goals intro hb; all_goals (fail_if_success (change true = true at hb)); all_goals (fail_if_success (change false = false at hb)); all_goals (try dsimp only at hb); all_goals (try simp only [hb]); all_goals (first | replace hb := of_decide_eq_true hb | replace hb := of_decide_eq_false hb | replace hb := bne_t hb | replace hb := bne_f hb | replace hb := eq_of_beq hb | replace hb := ne_of_beq_false hb | skip); all_goals (try (exfalso; omega)))
        | (apply aw_cond; exact rfl; all_goals intro hb; all_goals (try dsimp only at hb); all_goals (try simp only [hb]); all_goals (first | replace hb := of_decide_eq_true hb | replace hb := of_decide_eq_false hb | replace hb := bne_t hb | replace hb := bne_f hb | replace hb := eq_of_beq hb | replace hb := ne_of_beq_false hb | skip); all_goals (try (exfalso; omega))))
      all_goals first
        | (exfalso; omega)
        | exact loopq_end (k + 1) (by (try dsimp only); omega) (by (try dsimp only); omega) ⟨rfl, rfl, rfl, trivial⟩ (by (repeat (first | exact dt_end | (apply dt_cons; · (repeat (first | exact sel0 | apply selS))) | apply dt_skip)))
        | skip
  · obtain rfl : k = 3 := by omega
    have hd1 : decide (((3 : Nat) : Int) ≤ 2) = false := by decide
    rw [show accS l 3 = sumL l from hsum]
    repeat' (first
      | apply aw_seq | apply aw_region | apply aw_ret | apply aw_skip | apply aw_exit | apply aw_block | apply es_nil
      | (apply es_pure hT; (iterate 4 exact rfl)) | (apply es_skip; (iterate 3 exact rfl)) | (apply es_skip0; (iterate 2 exact rfl))
      | (apply es_i64 hT; (iterate 4 exact rfl); (iterate 2 (first | omega | (dsimp only; omega))))
      | (apply aw_draw [] [] hmix; decide +kernel)
      | (apply es_load; (iterate 5 exact rfl); first | (apply ld_blk hT; exact rfl; exact rfl; (repeat (first | exact List.mem_cons_self | apply List.mem_cons_of_mem)); exact rfl; exact rfl) | (apply ld_all hT; exact rfl; exact rfl; (repeat (first | exact List.mem_cons_self | apply List.mem_cons_of_mem)); exact rfl))
      | (apply es_box; (iterate 5 exact rfl); intro _) | (apply es_alloc hT; (iterate 5 exact rfl); intro _)
      | (apply aw_condT; (iterate 2 exact rfl)) | (apply aw_condF; (iterate 2 exact rfl))
      | (apply es_case; exact rfl; all_goals intro hb; all_goals (fail_if_success (change true = true at hb)); all_goals (fail_if_success (change false = false at hb)); all_goals (try dsimp only at hb); all_goals (try simp only [hb]); all_goals (first | replace hb := of_decide_eq_true hb | replace hb := of_decide_eq_false hb | replace hb := bne_t hb | replace hb := bne_f hb | replace hb := eq_of_beq hb | replace hb := ne_of_beq_false hb | skip); all_goals (try (exfalso; omega)))
      | (apply aw_cond; exact rfl; all_goals intro hb; all_goals (try dsimp only at hb); all_goals (try simp only [hb]); all_goals (first | replace hb := of_decide_eq_true hb | replace hb := of_decide_eq_false hb | replace hb := bne_t hb | replace hb := bne_f hb | replace hb := eq_of_beq hb | replace hb := ne_of_beq_false hb | skip); all_goals (try (exfalso; omega))))
    all_goals first
      | (exfalso; omega)
      | (apply ret1; exact rfl; exact ⟨rfl, by (repeat (first | exact dt_end | (apply dt_cons; · (repeat (first | exact sel0 | apply selS))) | apply dt_skip))⟩)
      | skip
end Go.Proofs.Ytiefkpfamkkapaa
