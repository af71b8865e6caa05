/- slices.BinarySearchFunc at the element type Quote: over a row that rises in what is asked, it finds how many are ahead. Conditions stand in the statement. -/
import Derived.Test.YtmoglacdddinjaaCmp
set_option linter.unusedSimpArgs false
set_option linter.unusedVariables false
namespace Go.Proofs.Ytmoglacdddinjaa
open Go Go.Sl
attribute [local irreducible] AW ES Ld RetQ
set_option maxRecDepth 100000

theorem bsearchQuote (W : World) (h : List Chunk) (A : Option Addr) (n c : Nat) (l : List Quote) (hn : l.length = n) (hr : Reads W h A n 6 (l.flatMap Quote.enc)) (tgt : Value) (htg : ∃ a, tgt = .int .i64 a) (fn : FuncId) (cap : List Value) (cf : Quote → Int)
    (hf : ∀ x ∈ l, QSpec Try.prog W fn ([.agg x.enc.toArray, tgt] ++ cap) h (.int .i64 (cf x))) (hmono : ∀ (i j : Nat) x y, i ≤ j → l[i]? = some x → l[j]? = some y → cf y < 0 → cf x < 0) (hb : n ≤ 2305843009213693951) :
    QSpec Try.prog W 83 [.slice A n c, tgt, .func (.func fn) #[] cap.toArray] h (.tuple #[.int .i64 (bsN cf l), .bool (bsB cf l)]) := by
  obtain ⟨ta, rfl⟩ := htg
  refine QSpec.of (fun h' hs => ?_)
  have hr' := hr.mono hs
  refine spec_body Try.func83 rfl rfl Try.results83 Try.ntmps83 rfl rfl ?_
  refine aw_reads hr' rfl (fun hA => ?_)
  repeat' (first
    | apply aw_seq | apply aw_region | apply aw_ret | apply aw_skip | apply aw_exit | apply aw_block | apply es_nil
    | (apply es_pure hT; (iterate 4 exact rfl)) | (apply es_skip; (iterate 3 exact rfl)) | (apply es_skip0; (iterate 2 exact rfl))
    | (apply es_i64 hT; (iterate 4 exact rfl); (iterate 2 omega))
    | (apply aw_draw [] [] hmix; decide +kernel)
    | (apply es_load; (iterate 5 exact rfl); first | exact ld_blk hT rfl rfl mem0 rfl rfl | exact ld_all hT rfl rfl mem0 rfl)
    | (apply es_load; (iterate 5 exact rfl); first | exact ld_blk hT rfl rfl mem1 rfl rfl | exact ld_all hT rfl rfl mem1 rfl)
    | (apply es_load; (iterate 5 exact rfl); first | exact ld_blk hT rfl rfl mem2 rfl rfl | exact ld_all hT rfl rfl mem2 rfl)
    | (apply es_box; (iterate 5 exact rfl); intro _) | (apply es_alloc hT; (iterate 5 exact rfl); intro _)
    | (apply aw_condT; (iterate 2 exact rfl)) | (apply aw_condF; (iterate 2 exact rfl))
    | (apply es_case; exact rfl; all_goals intro hb; all_goals (try simp only [hb]); all_goals (first | replace hb := of_decide_eq_true hb | replace hb := of_decide_eq_false hb | replace hb := bne_t hb | replace hb := bne_f hb | skip); all_goals (try (exfalso; omega)))
    | (apply aw_cond; exact rfl; all_goals intro hb; all_goals (try simp only [hb]); all_goals (first | replace hb := of_decide_eq_true hb | replace hb := of_decide_eq_false hb | replace hb := bne_t hb | replace hb := bne_f hb | skip); all_goals (try (exfalso; omega))))
  refine aw_loop (α := Int × Int) (E := fun p => [(0, .slice A n c), (2, .func (.func fn) #[] cap.toArray), (1, .int .i64 ta), (8, .int .i64 n), (9, .int .i64 p.1), (10, .int .i64 p.2)]) (H := fun _ => _) (μ := fun p => (p.2 - p.1).toNat)
    (S := fun p => 0 ≤ p.1 ∧ p.1 ≤ p.2 ∧ p.2 ≤ n ∧ (∀ (k : Nat) y, (k : Int) < p.1 → l[k]? = some y → cf y < 0) ∧ (∀ (k : Nat) y, p.2 ≤ (k : Int) → l[k]? = some y → ¬ cf y < 0)) (0, (n : Int)) (J := [])
    ⟨by simp, by simp, by simp, fun k y hk => by simp at hk; omega, fun k y hk hy => by have := (List.getElem?_eq_some_iff.1 hy).1; simp at hk; omega⟩ ⟨rfl, rfl, rfl, rfl, rfl, rfl, trivial⟩ (List.Perm.refl _) ?_
  rintro ⟨i, j⟩ ⟨s1, s2, s3, s4, s5⟩
  simp only at s1 s2 s3 s4 s5
  by_cases hlt : i < j
  · obtain ⟨m, hm⟩ : ∃ m : Nat, (i + j) / 2 = (m : Int) := ⟨((i + j) / 2).toNat, by omega⟩
    have hm2 : ((i + j) / 2).toNat = m := by omega
    obtain ⟨x, hx⟩ : ∃ x, l[m]? = some x := ⟨l[m]'(by omega), List.getElem?_eq_getElem (by omega)⟩
    have hx2 : l[((i + j) / 2).toNat]? = some x := by rw [hm2]; exact hx
    have hfx := (hf x (List.mem_of_getElem? hx)).mono hs
    have hA' := hA (by omega)
    repeat' (first
      | apply aw_seq | apply aw_region | apply aw_ret | apply aw_skip | apply aw_exit | apply aw_block | apply es_nil
      | (apply es_pure hT; (iterate 4 exact rfl)) | (apply es_skip; (iterate 3 exact rfl)) | (apply es_skip0; (iterate 2 exact rfl))
      | (apply es_i64 hT; (iterate 4 exact rfl); (iterate 2 omega))
      | (apply aw_draw [] [] hmix; decide +kernel)
      | (apply es_u64 hT; (iterate 4 exact rfl); (iterate 2 omega))
      | (apply es_half; (iterate 6 exact rfl))
      | (apply es_idx hT; (iterate 8 exact rfl); (iterate 2 omega); exact hA')
      | (apply es_load; (iterate 5 exact rfl); first | exact ld_elem hT rfl rfl hr' Quote.enc_len rfl hx2 rfl | exact ld_elem hT rfl rfl hr'.cons Quote.enc_len rfl hx2 rfl)
      | (apply es_callQ (hs := hfx); (iterate 7 exact rfl))
      | (apply es_callQ (hs := (hfx.mono (fun c hc => List.mem_cons_of_mem _ hc))); (iterate 7 exact rfl))
      | (apply es_load; (iterate 5 exact rfl); first | exact ld_blk hT rfl rfl mem0 rfl rfl | exact ld_all hT rfl rfl mem0 rfl)
      | (apply es_load; (iterate 5 exact rfl); first | exact ld_blk hT rfl rfl mem1 rfl rfl | exact ld_all hT rfl rfl mem1 rfl)
      | (apply es_load; (iterate 5 exact rfl); first | exact ld_blk hT rfl rfl mem2 rfl rfl | exact ld_all hT rfl rfl mem2 rfl)
      | (apply es_box; (iterate 5 exact rfl); intro _) | (apply es_alloc hT; (iterate 5 exact rfl); intro _)
      | (apply aw_condT; (iterate 2 exact rfl)) | (apply aw_condF; (iterate 2 exact rfl))
      | (apply es_case; exact rfl; all_goals intro hb; all_goals (try simp only [hb]); all_goals (first | replace hb := of_decide_eq_true hb | replace hb := of_decide_eq_false hb | replace hb := bne_t hb | replace hb := bne_f hb | skip); all_goals (try (exfalso; omega)))
      | (apply aw_cond; exact rfl; all_goals intro hb; all_goals (try simp only [hb]); all_goals (first | replace hb := of_decide_eq_true hb | replace hb := of_decide_eq_false hb | replace hb := bne_t hb | replace hb := bne_f hb | skip); all_goals (try (exfalso; omega))))
    · have hcx := hb
      refine ⟨((i + j) / 2 + 1, j), [], by dsimp only; omega, ⟨by dsimp only; omega, by dsimp only; omega, s3, fun k y hk hy => ?_, s5⟩, ⟨rfl, rfl, rfl, rfl, rfl, rfl, trivial⟩, List.Perm.refl _⟩
      exact hmono k m y x (by dsimp only at hk; omega) hy hx hcx
    · have hcx := hb
      refine ⟨(i, (i + j) / 2), [], by dsimp only; omega, ⟨s1, by dsimp only; omega, by dsimp only; omega, s4, fun k y hk hy hneg => hcx (hmono m k x y (by dsimp only at hk; omega) hx hy hneg)⟩, ⟨rfl, rfl, rfl, rfl, rfl, rfl, trivial⟩, List.Perm.refl _⟩
  · obtain ⟨m, hm⟩ : ∃ m : Nat, i = (m : Int) := ⟨i.toNat, by omega⟩
    subst hm
    obtain rfl : j = (m : Int) := by omega
    have hbs : bsN cf l = m := bsN_eq (by omega) (fun k y hk hy => s4 k y (by omega) hy) (fun y hy => s5 m y (by omega) hy)
    by_cases hmn : m < n
    · obtain ⟨x, hx⟩ : ∃ x, l[m]? = some x := ⟨l[m]'(by omega), List.getElem?_eq_getElem (by omega)⟩
      have hx2 : l[(m : Int).toNat]? = some x := by simpa using hx
      have hfx := (hf x (List.mem_of_getElem? hx)).mono hs
      have hA' := hA (by omega)
      have hd : decide ((m : Int) < (n : Int)) = true := by simp; omega
      repeat' (first
        | apply aw_seq | apply aw_region | apply aw_ret | apply aw_skip | apply aw_exit | apply aw_block | apply es_nil
        | (apply es_pure hT; (iterate 4 exact rfl)) | (apply es_skip; (iterate 3 exact rfl)) | (apply es_skip0; (iterate 2 exact rfl))
        | (apply es_i64 hT; (iterate 4 exact rfl); (iterate 2 omega))
        | (apply aw_draw [] [] hmix; decide +kernel)
        | (apply es_idx hT; (iterate 8 exact rfl); (iterate 2 omega); exact hA')
        | (apply es_load; (iterate 5 exact rfl); first | exact ld_elem hT rfl rfl hr' Quote.enc_len rfl hx2 rfl | exact ld_elem hT rfl rfl hr'.cons Quote.enc_len rfl hx2 rfl)
        | (apply es_callQ (hs := hfx); (iterate 7 exact rfl))
        | (apply es_callQ (hs := (hfx.mono (fun c hc => List.mem_cons_of_mem _ hc))); (iterate 7 exact rfl))
        | (apply es_load; (iterate 5 exact rfl); first | exact ld_blk hT rfl rfl mem0 rfl rfl | exact ld_all hT rfl rfl mem0 rfl)
        | (apply es_load; (iterate 5 exact rfl); first | exact ld_blk hT rfl rfl mem1 rfl rfl | exact ld_all hT rfl rfl mem1 rfl)
        | (apply es_load; (iterate 5 exact rfl); first | exact ld_blk hT rfl rfl mem2 rfl rfl | exact ld_all hT rfl rfl mem2 rfl)
        | (apply es_box; (iterate 5 exact rfl); intro _) | (apply es_alloc hT; (iterate 5 exact rfl); intro _)
        | (apply aw_condT; (iterate 2 exact rfl)) | (apply aw_condF; (iterate 2 exact rfl))
        | (apply es_case; exact rfl; all_goals intro hb; all_goals (try simp only [hb]); all_goals (first | replace hb := of_decide_eq_true hb | replace hb := of_decide_eq_false hb | replace hb := bne_t hb | replace hb := bne_f hb | skip); all_goals (try (exfalso; omega)))
        | (apply aw_cond; exact rfl; all_goals intro hb; all_goals (try simp only [hb]); all_goals (first | replace hb := of_decide_eq_true hb | replace hb := of_decide_eq_false hb | replace hb := bne_t hb | replace hb := bne_f hb | skip); all_goals (try (exfalso; omega))))
      apply ret2; exact rfl; exact rfl
      exact ⟨by rw [bsB, hbs, hx], [], List.Perm.refl _⟩
    · have hx : l[m]? = none := List.getElem?_eq_none (by omega)
      repeat' (first
        | apply aw_seq | apply aw_region | apply aw_ret | apply aw_skip | apply aw_exit | apply aw_block | apply es_nil
        | (apply es_pure hT; (iterate 4 exact rfl)) | (apply es_skip; (iterate 3 exact rfl)) | (apply es_skip0; (iterate 2 exact rfl))
        | (apply es_i64 hT; (iterate 4 exact rfl); (iterate 2 omega))
        | (apply aw_draw [] [] hmix; decide +kernel)
        | (apply es_load; (iterate 5 exact rfl); first | exact ld_blk hT rfl rfl mem0 rfl rfl | exact ld_all hT rfl rfl mem0 rfl)
        | (apply es_load; (iterate 5 exact rfl); first | exact ld_blk hT rfl rfl mem1 rfl rfl | exact ld_all hT rfl rfl mem1 rfl)
        | (apply es_load; (iterate 5 exact rfl); first | exact ld_blk hT rfl rfl mem2 rfl rfl | exact ld_all hT rfl rfl mem2 rfl)
        | (apply es_box; (iterate 5 exact rfl); intro _) | (apply es_alloc hT; (iterate 5 exact rfl); intro _)
        | (apply aw_condT; (iterate 2 exact rfl)) | (apply aw_condF; (iterate 2 exact rfl))
        | (apply es_case; exact rfl; all_goals intro hb; all_goals (try simp only [hb]); all_goals (first | replace hb := of_decide_eq_true hb | replace hb := of_decide_eq_false hb | replace hb := bne_t hb | replace hb := bne_f hb | skip); all_goals (try (exfalso; omega)))
        | (apply aw_cond; exact rfl; all_goals intro hb; all_goals (try simp only [hb]); all_goals (first | replace hb := of_decide_eq_true hb | replace hb := of_decide_eq_false hb | replace hb := bne_t hb | replace hb := bne_f hb | skip); all_goals (try (exfalso; omega))))
      apply ret2; exact rfl; exact rfl
      exact ⟨by rw [bsB, hbs, hx], [], List.Perm.refl _⟩
end Go.Proofs.Ytmoglacdddinjaa
