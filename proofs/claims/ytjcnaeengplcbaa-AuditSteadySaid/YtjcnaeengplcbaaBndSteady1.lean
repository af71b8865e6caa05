/- The statement's walk, and what it stands on, joined into few texts: part 1. Conditions stand in each statement. -/
import Derived.Maps.AppendAt
import Derived.Laws.CopyOwn
import Derived.Laws.MakeOwn
import Derived.Laws.StructEq
import Derived.Deep.Quiet
import Derived.Below
import Derived.Tactics
import Derived.IntWalk
import Derived.Lib.Overlaps
import Derived.Test.YtjcnaeengplcbaaRows
import Derived.OpenShut
import Derived.ChangeSame
import Derived.ProofKit
import Derived.WideKeyArgs
import Derived.Deep.Slices
import Derived.Deep.Fields
import Derived.Test.YtjcnaeengplcbaaChecked
import Derived.KernelRfl
import Derived.MapKept
import Derived.Shelf.SlSortCmp.NoneTotal
import Derived.Ground.SlsfProg
import Derived.WalkKit
import Derived.Sort.Grow
import Derived.Lib.Mul64
import Derived.Laws.Bits64b
import Derived.ChangeKeysEq
import Derived.Test.YtjcnaeengplcbaaBndSteady0
set_option linter.unusedSimpArgs false
set_option linter.unusedVariables false
namespace Go.Proofs.Ytjcnaeengplcbaa
open Go Go.Sl
attribute [local irreducible] AW ES Ld RetQ
set_option maxRecDepth 100000

theorem indexFuncPartyR (W : World) (h : List Chunk) (A : Option Addr) (n c : Nat) (l : List PartyR) (hn : l.length = n) (hr : Reads W h A n 3 (l.flatMap PartyR.enc)) (fn : FuncId) (cap : List Value) (p : PartyR → Bool)
    (hf : ∀ x ∈ l, QSpec Try.prog W fn ([.agg x.enc.toArray] ++ cap) h (.bool (p x))) (hb : n ≤ 4611686018427387903) :
    QSpec Try.prog W 60 [.slice A n c, .func (.func fn) #[] cap.toArray] h (.int .i64 (idxOf p l)) := by
  refine QSpec.of (fun h' hs => ?_)
  have hr' := hr.mono hs
  refine spec_body Try.func60 rfl rfl Try.results60 Try.ntmps60 rfl rfl ?_
  refine aw_reads hr' rfl (fun hA => ?_)
  repeat' (first
    | apply aw_seq | apply aw_region | apply aw_ret | apply aw_skip | apply aw_exit | apply aw_block | apply es_nil
    | (apply es_pure hT; (iterate 4 exact rfl)) | (apply es_skip; (iterate 3 exact rfl)) | (apply es_skip0; (iterate 2 exact rfl))
    | (apply es_i64 hT; (iterate 4 exact rfl); (iterate 2 (first | omega | (dsimp only; omega))))
    | (apply aw_draw [] [] hmix; decide +kernel)
    | (apply es_load; (iterate 5 exact rfl); first | (apply ld_blk hT; exact rfl; exact rfl; (repeat (first | exact List.mem_cons_self | apply List.mem_cons_of_mem)); exact rfl; exact rfl) | (apply ld_all hT; exact rfl; exact rfl; (repeat (first | exact List.mem_cons_self | apply List.mem_cons_of_mem)); exact rfl))
    | (apply es_box; (iterate 5 exact rfl); intro _) | (apply es_alloc hT; (iterate 5 exact rfl); intro _)
    | (apply aw_condT; (iterate 2 exact rfl)) | (apply aw_condF; (iterate 2 exact rfl))
    | (apply es_case; exact rfl; all_goals intro hb; all_goals (fail_if_success (change true = true at hb)); all_goals (fail_if_success (change false = false at hb)); all_goals (try dsimp only at hb); all_goals (try simp only [hb]); all_goals (first | replace hb := of_decide_eq_true hb | replace hb := of_decide_eq_false hb | replace hb := bne_t hb | replace hb := bne_f hb | replace hb := eq_of_beq hb | replace hb := ne_of_beq_false hb | skip); all_goals (try (exfalso; omega)))
    | (apply aw_cond; exact rfl; all_goals intro hb; all_goals (try dsimp only at hb); all_goals (try simp only [hb]); all_goals (first | replace hb := of_decide_eq_true hb | replace hb := of_decide_eq_false hb | replace hb := bne_t hb | replace hb := bne_f hb | replace hb := eq_of_beq hb | replace hb := ne_of_beq_false hb | skip); all_goals (try (exfalso; omega))))
  refine aw_loop (α := Nat) (E := fun k => [(0, .slice A n c), (1, .func (.func fn) #[] cap.toArray), (7, .int .i64 n), (8, .int .i64 k)]) (H := fun _ => h') (μ := fun k => n - k)
    (S := fun k => k ≤ n ∧ ∀ (j : Nat) y, j < k → l[j]? = some y → p y = false) 0 (J := []) ⟨Nat.zero_le _, fun j y hj => by omega⟩ ⟨rfl, rfl, rfl, rfl, trivial⟩ (List.Perm.refl _) ?_
  rintro k ⟨hk1, hk2⟩
  by_cases hlt : k < n
  · obtain ⟨x, hx⟩ : ∃ x, l[k]? = some x := ⟨l[k]'(by omega), List.getElem?_eq_getElem (by omega)⟩
    have hx2 : l[(k : Int).toNat]? = some x := by simpa using hx
    have hfx := (hf x (List.mem_of_getElem? hx)).mono hs
    have hA' := hA (by omega)
    repeat' (first
      | apply aw_seq | apply aw_region | apply aw_ret | apply aw_skip | apply aw_exit | apply aw_block | apply es_nil
      | (apply es_pure hT; (iterate 4 exact rfl)) | (apply es_skip; (iterate 3 exact rfl)) | (apply es_skip0; (iterate 2 exact rfl))
      | (apply es_i64 hT; (iterate 4 exact rfl); (iterate 2 (first | omega | (dsimp only; omega))))
      | (apply aw_draw [] [] hmix; decide +kernel)
      | (apply es_idx hT; (iterate 8 exact rfl); (iterate 2 omega); exact hA')
      | (apply es_load; (iterate 5 exact rfl); exact ld_elem hT rfl rfl hr' PartyR.enc_len rfl hx2 rfl)
      | (apply es_callQ (hs := hfx); (iterate 7 exact rfl))
      | (apply es_load; (iterate 5 exact rfl); first | (apply ld_blk hT; exact rfl; exact rfl; (repeat (first | exact List.mem_cons_self | apply List.mem_cons_of_mem)); exact rfl; exact rfl) | (apply ld_all hT; exact rfl; exact rfl; (repeat (first | exact List.mem_cons_self | apply List.mem_cons_of_mem)); exact rfl))
      | (apply es_box; (iterate 5 exact rfl); intro _) | (apply es_alloc hT; (iterate 5 exact rfl); intro _)
      | (apply aw_condT; (iterate 2 exact rfl)) | (apply aw_condF; (iterate 2 exact rfl))
      | (apply es_case; exact rfl; all_goals intro hb; all_goals (fail_if_success (change true = true at hb)); all_goals (fail_if_success (change false = false at hb)); all_goals (try dsimp only at hb); all_goals (try simp only [hb]); all_goals (first | replace hb := of_decide_eq_true hb | replace hb := of_decide_eq_false hb | replace hb := bne_t hb | replace hb := bne_f hb | replace hb := eq_of_beq hb | replace hb := ne_of_beq_false hb | skip); all_goals (try (exfalso; omega)))
      | (apply aw_cond; exact rfl; all_goals intro hb; all_goals (try dsimp only at hb); all_goals (try simp only [hb]); all_goals (first | replace hb := of_decide_eq_true hb | replace hb := of_decide_eq_false hb | replace hb := bne_t hb | replace hb := bne_f hb | replace hb := eq_of_beq hb | replace hb := ne_of_beq_false hb | skip); all_goals (try (exfalso; omega))))
    · exact retQ1 (J := []) rfl (by rw [idxOf_at hx hb hk2]) (List.Perm.refl _)
    · have hpx := hb
      refine ⟨k + 1, [], by dsimp only; omega, ⟨by omega, fun j y hj hy => ?_⟩, ⟨rfl, rfl, rfl, rfl, trivial⟩, List.Perm.refl _⟩
      by_cases hjk : j < k
      · exact hk2 j y hjk hy
      · obtain rfl : j = k := by omega
        rw [hx] at hy; cases hy; exact hpx
  · repeat' (first
      | apply aw_seq | apply aw_region | apply aw_ret | apply aw_skip | apply aw_exit | apply aw_block | apply es_nil
      | (apply es_pure hT; (iterate 4 exact rfl)) | (apply es_skip; (iterate 3 exact rfl)) | (apply es_skip0; (iterate 2 exact rfl))
      | (apply es_i64 hT; (iterate 4 exact rfl); (iterate 2 (first | omega | (dsimp only; omega))))
      | (apply aw_draw [] [] hmix; decide +kernel)
      | (apply es_load; (iterate 5 exact rfl); first | (apply ld_blk hT; exact rfl; exact rfl; (repeat (first | exact List.mem_cons_self | apply List.mem_cons_of_mem)); exact rfl; exact rfl) | (apply ld_all hT; exact rfl; exact rfl; (repeat (first | exact List.mem_cons_self | apply List.mem_cons_of_mem)); exact rfl))
      | (apply es_box; (iterate 5 exact rfl); intro _) | (apply es_alloc hT; (iterate 5 exact rfl); intro _)
      | (apply aw_condT; (iterate 2 exact rfl)) | (apply aw_condF; (iterate 2 exact rfl))
      | (apply es_case; exact rfl; all_goals intro hb; all_goals (fail_if_success (change true = true at hb)); all_goals (fail_if_success (change false = false at hb)); all_goals (try dsimp only at hb); all_goals (try simp only [hb]); all_goals (first | replace hb := of_decide_eq_true hb | replace hb := of_decide_eq_false hb | replace hb := bne_t hb | replace hb := bne_f hb | replace hb := eq_of_beq hb | replace hb := ne_of_beq_false hb | skip); all_goals (try (exfalso; omega)))
      | (apply aw_cond; exact rfl; all_goals intro hb; all_goals (try dsimp only at hb); all_goals (try simp only [hb]); all_goals (first | replace hb := of_decide_eq_true hb | replace hb := of_decide_eq_false hb | replace hb := bne_t hb | replace hb := bne_f hb | replace hb := eq_of_beq hb | replace hb := ne_of_beq_false hb | skip); all_goals (try (exfalso; omega))))
    exact retQ1 (J := []) rfl (by rw [idxOf_none (fun (j : Nat) y hj => hk2 j y (by have := (List.getElem?_eq_some_iff.1 hj).1; omega) hj)]) (List.Perm.refl _)

theorem containsFuncPartyR (W : World) (h : List Chunk) (A : Option Addr) (n c : Nat) (l : List PartyR) (hn : l.length = n) (hr : Reads W h A n 3 (l.flatMap PartyR.enc)) (fn : FuncId) (cap : List Value) (p : PartyR → Bool)
    (hf : ∀ x ∈ l, QSpec Try.prog W fn ([.agg x.enc.toArray] ++ cap) h (.bool (p x))) (hb : n ≤ 4611686018427387903) :
    QSpec Try.prog W 43 [.slice A n c, .func (.func fn) #[] cap.toArray] h (.bool (decide (idxOf p l ≥ 0))) := by
  refine QSpec.of (fun h' hs => ?_)
  refine spec_body Try.func43 rfl rfl Try.results43 Try.ntmps43 rfl rfl ?_
  repeat' (first
    | apply aw_seq | apply aw_region | apply aw_ret | apply aw_skip | apply aw_exit | apply aw_block | apply es_nil
    | (apply es_pure hT; (iterate 4 exact rfl)) | (apply es_skip; (iterate 3 exact rfl)) | (apply es_skip0; (iterate 2 exact rfl))
    | (apply es_i64 hT; (iterate 4 exact rfl); (iterate 2 (first | omega | (dsimp only; omega))))
    | (apply aw_draw [] [] hmix; decide +kernel)
    | (apply es_callQ (hs := ((indexFuncPartyR W h A n c l hn hr fn cap p hf hb).mono hs)); (iterate 7 exact rfl))
    | (apply es_load; (iterate 5 exact rfl); first | (apply ld_blk hT; exact rfl; exact rfl; (repeat (first | exact List.mem_cons_self | apply List.mem_cons_of_mem)); exact rfl; exact rfl) | (apply ld_all hT; exact rfl; exact rfl; (repeat (first | exact List.mem_cons_self | apply List.mem_cons_of_mem)); exact rfl))
    | (apply es_box; (iterate 5 exact rfl); intro _) | (apply es_alloc hT; (iterate 5 exact rfl); intro _)
    | (apply aw_condT; (iterate 2 exact rfl)) | (apply aw_condF; (iterate 2 exact rfl))
    | (apply es_case; exact rfl; all_goals intro hb; all_goals (fail_if_success (change true = true at hb)); all_goals (fail_if_success (change false = false at hb)); all_goals (try dsimp only at hb); all_goals (try simp only [hb]); all_goals (first | replace hb := of_decide_eq_true hb | replace hb := of_decide_eq_false hb | replace hb := bne_t hb | replace hb := bne_f hb | replace hb := eq_of_beq hb | replace hb := ne_of_beq_false hb | skip); all_goals (try (exfalso; omega)))
    | (apply aw_cond; exact rfl; all_goals intro hb; all_goals (try dsimp only at hb); all_goals (try simp only [hb]); all_goals (first | replace hb := of_decide_eq_true hb | replace hb := of_decide_eq_false hb | replace hb := bne_t hb | replace hb := bne_f hb | replace hb := eq_of_beq hb | replace hb := ne_of_beq_false hb | skip); all_goals (try (exfalso; omega))))
  exact retQ1 (J := []) rfl rfl (List.Perm.refl _)

theorem clonePartyR (W : World) (h : List Chunk) (A : Option Addr) (n c : Nat) (cs : List Value) (hr : Reads W h A n 3 cs) (hb : n * 24 ≤ 140737488355328) :
    FSpec Try.prog W 28 [.slice A n c] h (fun v h' => ∃ A' c', v = .slice A' n c' ∧ h' = .own A' n c' 66 3 cs :: h) := by
  refine FSpec.drop ?_
  refine spec_body Try.func28 rfl rfl Try.results28 Try.ntmps28 rfl rfl ?_
  refine aw_reads hr rfl (fun hA => ?_)
  cases A with
  | none =>
    have hn : n = 0 := by
      rcases Nat.eq_zero_or_pos n with h | h
      · exact h
      · have := hA h; simp at this
    subst hn
    have hcs : cs = [] := List.eq_nil_of_length_eq_zero (by simpa using hr.len)
    subst hcs
    refine aw_conv (fun w hw => ⟨_, hw.own_nil 66 3, ?_⟩)
    repeat' (first
      | apply aw_seq | apply aw_region | apply aw_ret | apply aw_skip | apply aw_exit | apply aw_block | apply es_nil
      | (apply es_pure hT; (iterate 4 exact rfl)) | (apply es_skip; (iterate 3 exact rfl)) | (apply es_skip0; (iterate 2 exact rfl))
      | (apply es_i64 hT; (iterate 4 exact rfl); (iterate 2 (first | omega | (dsimp only; omega))))
      | (apply aw_draw [] [] hmix; decide +kernel)
      | (apply es_load; (iterate 5 exact rfl); first | (apply ld_blk hT; exact rfl; exact rfl; (repeat (first | exact List.mem_cons_self | apply List.mem_cons_of_mem)); exact rfl; exact rfl) | (apply ld_all hT; exact rfl; exact rfl; (repeat (first | exact List.mem_cons_self | apply List.mem_cons_of_mem)); exact rfl))
      | (apply es_box; (iterate 5 exact rfl); intro _) | (apply es_alloc hT; (iterate 5 exact rfl); intro _)
      | (apply aw_condT; (iterate 2 exact rfl)) | (apply aw_condF; (iterate 2 exact rfl))
      | (apply es_case; exact rfl; all_goals intro hb; all_goals (fail_if_success (change true = true at hb)); all_goals (fail_if_success (change false = false at hb)); all_goals (try dsimp only at hb); all_goals (try simp only [hb]); all_goals (first | replace hb := of_decide_eq_true hb | replace hb := of_decide_eq_false hb | replace hb := bne_t hb | replace hb := bne_f hb | replace hb := eq_of_beq hb | replace hb := ne_of_beq_false hb | skip); all_goals (try (exfalso; omega)))
      | (apply aw_cond; exact rfl; all_goals intro hb; all_goals (try dsimp only at hb); all_goals (try simp only [hb]); all_goals (first | replace hb := of_decide_eq_true hb | replace hb := of_decide_eq_false hb | replace hb := bne_t hb | replace hb := bne_f hb | replace hb := eq_of_beq hb | replace hb := ne_of_beq_false hb | skip); all_goals (try (exfalso; omega))))
    apply ret1; exact rfl
    exact ⟨[], _, List.Perm.refl _, none, 0, rfl, rfl⟩
  | some ad =>
    repeat' (first
      | apply aw_seq | apply aw_region | apply aw_ret | apply aw_skip | apply aw_exit | apply aw_block | apply es_nil
      | (apply es_pure hT; (iterate 4 exact rfl)) | (apply es_skip; (iterate 3 exact rfl)) | (apply es_skip0; (iterate 2 exact rfl))
      | (apply es_i64 hT; (iterate 4 exact rfl); (iterate 2 (first | omega | (dsimp only; omega))))
      | (apply aw_draw [] [] hmix; decide +kernel)
      | (apply es_buildSlice hT; (iterate 12 exact rfl); intro g1)
      | (apply es_append hT; (iterate 10 exact rfl); exact sel0; exact hr.cons; omega; (show (0 + n) * 24 ≤ _; omega); intro A' c')
      | (apply es_load; (iterate 5 exact rfl); first | (apply ld_blk hT; exact rfl; exact rfl; (repeat (first | exact List.mem_cons_self | apply List.mem_cons_of_mem)); exact rfl; exact rfl) | (apply ld_all hT; exact rfl; exact rfl; (repeat (first | exact List.mem_cons_self | apply List.mem_cons_of_mem)); exact rfl))
      | (apply es_box; (iterate 5 exact rfl); intro _) | (apply es_alloc hT; (iterate 5 exact rfl); intro _)
      | (apply aw_condT; (iterate 2 exact rfl)) | (apply aw_condF; (iterate 2 exact rfl))
      | (apply es_case; exact rfl; all_goals intro hb; all_goals (fail_if_success (change true = true at hb)); all_goals (fail_if_success (change false = false at hb)); all_goals (try dsimp only at hb); all_goals (try simp only [hb]); all_goals (first | replace hb := of_decide_eq_true hb | replace hb := of_decide_eq_false hb | replace hb := bne_t hb | replace hb := bne_f hb | replace hb := eq_of_beq hb | replace hb := ne_of_beq_false hb | skip); all_goals (try (exfalso; omega)))
      | (apply aw_cond; exact rfl; all_goals intro hb; all_goals (try dsimp only at hb); all_goals (try simp only [hb]); all_goals (first | replace hb := of_decide_eq_true hb | replace hb := of_decide_eq_false hb | replace hb := bne_t hb | replace hb := bne_f hb | replace hb := eq_of_beq hb | replace hb := ne_of_beq_false hb | skip); all_goals (try (exfalso; omega))))
    apply ret1; exact rfl
    refine ⟨[], _, List.Perm.refl _, A', c', by rw [Nat.zero_add], ?_⟩
    show Chunk.own A' (0 + n) c' 66 3 ([] ++ cs) :: h = _
    simp

end Go.Proofs.Ytjcnaeengplcbaa

set_option linter.unusedSimpArgs false
set_option linter.unusedVariables false
namespace Go.Proofs.Ytjcnaeengplcbaa
open Go Go.Sl
attribute [local irreducible] AW ES EP Ld RetQ
set_option maxRecDepth 100000

theorem bond_in (W : World) (n a b : Int) : QSpec Try.prog W 58 [.int .i64 n, .int .i64 a, .int .i64 b] [] (.bool (inB n a b)) := by
  refine QSpec.ofD (fun h' hs => ?_)
  refine spec_body Try.func58 rfl rfl Try.results58 Try.ntmps58 rfl rfl ?_
  repeat' (first
    | apply aw_seq | apply aw_region | apply aw_ret | apply aw_skip | apply aw_exit | apply aw_block | apply es_nil
    | (apply es_pure hT; (iterate 4 exact rfl)) | (apply es_skip; (iterate 3 exact rfl)) | (apply es_skip0; (iterate 2 exact rfl))
    | (apply es_i64 hT; (iterate 4 exact rfl); (iterate 2 (first | omega | (dsimp only; omega))))
    | (apply aw_draw [] [] hmix; decide +kernel)
    | (apply es_load; (iterate 5 exact rfl); first | (apply ld_blk hT; exact rfl; exact rfl; (repeat (first | exact List.mem_cons_self | apply List.mem_cons_of_mem)); exact rfl; exact rfl) | (apply ld_all hT; exact rfl; exact rfl; (repeat (first | exact List.mem_cons_self | apply List.mem_cons_of_mem)); exact rfl))
    | (apply es_box; (iterate 5 exact rfl); intro _) | (apply es_alloc hT; (iterate 5 exact rfl); intro _)
    | (apply aw_condT; (iterate 2 exact rfl)) | (apply aw_condF; (iterate 2 exact rfl))
    | (apply es_case; exact rfl; all_goals intro hb; all_goals (fail_if_success (change true = true at hb)); all_goals (fail_if_success (change false = false at hb)); all_goals (try dsimp only at hb); all_goals (try simp only [hb]); all_goals (first | replace hb := of_decide_eq_true hb | replace hb := of_decide_eq_false hb | replace hb := bne_t hb | replace hb := bne_f hb | replace hb := eq_of_beq hb | replace hb := ne_of_beq_false hb | skip); all_goals (try (exfalso; omega)))
    | (apply aw_cond; exact rfl; all_goals intro hb; all_goals (try dsimp only at hb); all_goals (try simp only [hb]); all_goals (first | replace hb := of_decide_eq_true hb | replace hb := of_decide_eq_false hb | replace hb := bne_t hb | replace hb := bne_f hb | replace hb := eq_of_beq hb | replace hb := ne_of_beq_false hb | skip); all_goals (try (exfalso; omega))))
  all_goals (apply ret1; exact rfl; exact ⟨by (first | (simp_all [inB]; done) | (simp [inB]; omega)), dt_end⟩)
theorem firm_in (W : World) (n a b : Int) : QSpec Try.prog W 36 [.int .i64 n, .int .i64 a, .int .i64 b] [] (.bool (inB n a b)) := by
  refine QSpec.ofD (fun h' hs => ?_)
  refine spec_body Try.func36 rfl rfl Try.results36 Try.ntmps36 rfl rfl ?_
  repeat' (first
    | apply aw_seq | apply aw_region | apply aw_ret | apply aw_skip | apply aw_exit | apply aw_block | apply es_nil
    | (apply es_pure hT; (iterate 4 exact rfl)) | (apply es_skip; (iterate 3 exact rfl)) | (apply es_skip0; (iterate 2 exact rfl))
    | (apply es_i64 hT; (iterate 4 exact rfl); (iterate 2 (first | omega | (dsimp only; omega))))
    | (apply aw_draw [] [] hmix; decide +kernel)
    | (apply es_load; (iterate 5 exact rfl); first | (apply ld_blk hT; exact rfl; exact rfl; (repeat (first | exact List.mem_cons_self | apply List.mem_cons_of_mem)); exact rfl; exact rfl) | (apply ld_all hT; exact rfl; exact rfl; (repeat (first | exact List.mem_cons_self | apply List.mem_cons_of_mem)); exact rfl))
    | (apply es_box; (iterate 5 exact rfl); intro _) | (apply es_alloc hT; (iterate 5 exact rfl); intro _)
    | (apply aw_condT; (iterate 2 exact rfl)) | (apply aw_condF; (iterate 2 exact rfl))
    | (apply es_case; exact rfl; all_goals intro hb; all_goals (fail_if_success (change true = true at hb)); all_goals (fail_if_success (change false = false at hb)); all_goals (try dsimp only at hb); all_goals (try simp only [hb]); all_goals (first | replace hb := of_decide_eq_true hb | replace hb := of_decide_eq_false hb | replace hb := bne_t hb | replace hb := bne_f hb | replace hb := eq_of_beq hb | replace hb := ne_of_beq_false hb | skip); all_goals (try (exfalso; omega)))
    | (apply aw_cond; exact rfl; all_goals intro hb; all_goals (try dsimp only at hb); all_goals (try simp only [hb]); all_goals (first | replace hb := of_decide_eq_true hb | replace hb := of_decide_eq_false hb | replace hb := bne_t hb | replace hb := bne_f hb | replace hb := eq_of_beq hb | replace hb := ne_of_beq_false hb | skip); all_goals (try (exfalso; omega))))
  all_goals (apply ret1; exact rfl; exact ⟨by (first | (simp_all [inB]; done) | (simp [inB]; omega)), dt_end⟩)
theorem bond_Is (W : World) (b : BondR) : QSpec Try.prog W 38 [.agg b.enc.toArray] [] (.bool (isBond b)) := by
  refine QSpec.ofD (fun h' hs => ?_)
  refine spec_body Try.func38 rfl rfl Try.results38 Try.ntmps38 rfl rfl ?_
  repeat' (first
    | apply aw_seq | apply aw_region | apply aw_ret | apply aw_skip | apply aw_exit | apply aw_block | apply es_nil
    | (apply es_pure hT; (iterate 4 exact rfl)) | (apply es_skip; (iterate 3 exact rfl)) | (apply es_skip0; (iterate 2 exact rfl))
    | (apply es_i64 hT; (iterate 4 exact rfl); (iterate 2 (first | omega | (dsimp only; omega))))
    | (apply aw_draw [] [] hmix; decide +kernel)
    | (apply es_rem; (iterate 5 exact rfl); (have z1 := inB_t ‹inB b.lot 1 1000000 = true›; have z2 := inB_t ‹inB b.max b.min 1000000 = true›; have z3 := inB_t ‹inB b.min 1 1000000 = true›; omega); (have z1 := inB_t ‹inB b.lot 1 1000000 = true›; omega))
    | (apply es_i64 hT; (iterate 4 exact rfl); (iterate 2 (have z1 := inB_t ‹inB b.lot 1 1000000 = true›; have z2 := inB_t ‹inB b.max b.min 1000000 = true›; have z3 := inB_t ‹inB b.min 1 1000000 = true›; have z4 := Int.emod_nonneg b.max (show b.lot ≠ 0 by omega); have z5 := Int.emod_lt_of_pos b.max (show 0 < b.lot by omega); omega)))
    | (apply es_callQ (hs := ((bond_in W _ _ _).mono (by simp))); (iterate 7 exact rfl))
    | (apply es_load; (iterate 5 exact rfl); first | (apply ld_blk hT; exact rfl; exact rfl; (repeat (first | exact List.mem_cons_self | apply List.mem_cons_of_mem)); exact rfl; exact rfl) | (apply ld_all hT; exact rfl; exact rfl; (repeat (first | exact List.mem_cons_self | apply List.mem_cons_of_mem)); exact rfl))
    | (apply es_box; (iterate 5 exact rfl); intro _) | (apply es_alloc hT; (iterate 5 exact rfl); intro _)
    | (apply aw_condT; (iterate 2 exact rfl)) | (apply aw_condF; (iterate 2 exact rfl))
    | (apply es_case; exact rfl; all_goals intro hb; all_goals (fail_if_success (change true = true at hb)); all_goals (fail_if_success (change false = false at hb)); all_goals (try dsimp only at hb); all_goals (try simp only [hb]); all_goals (first | replace hb := of_decide_eq_true hb | replace hb := of_decide_eq_false hb | replace hb := bne_t hb | replace hb := bne_f hb | replace hb := eq_of_beq hb | replace hb := ne_of_beq_false hb | skip); all_goals (try (exfalso; omega)))
    | (apply aw_cond; exact rfl; all_goals intro hb; all_goals (try dsimp only at hb); all_goals (try simp only [hb]); all_goals (first | replace hb := of_decide_eq_true hb | replace hb := of_decide_eq_false hb | replace hb := bne_t hb | replace hb := bne_f hb | replace hb := eq_of_beq hb | replace hb := ne_of_beq_false hb | skip); all_goals (try (exfalso; omega))))
  all_goals first
    | (apply ret1; exact rfl; exact ⟨by simp_all [isBond], dt_skip dt_end⟩)
    | skip
theorem firm_Is1 (W : World) (b : BondR) : QSpec Try.prog W 37 [.agg b.enc.toArray] [] (.bool (!isBond b)) := by
  refine QSpec.ofD (fun h' hs => ?_)
  refine spec_body Try.func37 rfl rfl Try.results37 Try.ntmps37 rfl rfl ?_
  repeat' (first
    | apply aw_seq | apply aw_region | apply aw_ret | apply aw_skip | apply aw_exit | apply aw_block | apply es_nil
    | (apply es_pure hT; (iterate 4 exact rfl)) | (apply es_skip; (iterate 3 exact rfl)) | (apply es_skip0; (iterate 2 exact rfl))
    | (apply es_i64 hT; (iterate 4 exact rfl); (iterate 2 (first | omega | (dsimp only; omega))))
    | (apply aw_draw [] [] hmix; decide +kernel)
    | (apply es_callQ (hs := ((bond_Is W b).mono (by simp))); (iterate 7 exact rfl))
    | (apply es_load; (iterate 5 exact rfl); first | (apply ld_blk hT; exact rfl; exact rfl; (repeat (first | exact List.mem_cons_self | apply List.mem_cons_of_mem)); exact rfl; exact rfl) | (apply ld_all hT; exact rfl; exact rfl; (repeat (first | exact List.mem_cons_self | apply List.mem_cons_of_mem)); exact rfl))
    | (apply es_box; (iterate 5 exact rfl); intro _) | (apply es_alloc hT; (iterate 5 exact rfl); intro _)
    | (apply aw_condT; (iterate 2 exact rfl)) | (apply aw_condF; (iterate 2 exact rfl))
    | (apply es_case; exact rfl; all_goals intro hb; all_goals (fail_if_success (change true = true at hb)); all_goals (fail_if_success (change false = false at hb)); all_goals (try dsimp only at hb); all_goals (try simp only [hb]); all_goals (first | replace hb := of_decide_eq_true hb | replace hb := of_decide_eq_false hb | replace hb := bne_t hb | replace hb := bne_f hb | replace hb := eq_of_beq hb | replace hb := ne_of_beq_false hb | skip); all_goals (try (exfalso; omega)))
    | (apply aw_cond; exact rfl; all_goals intro hb; all_goals (try dsimp only at hb); all_goals (try simp only [hb]); all_goals (first | replace hb := of_decide_eq_true hb | replace hb := of_decide_eq_false hb | replace hb := bne_t hb | replace hb := bne_f hb | replace hb := eq_of_beq hb | replace hb := ne_of_beq_false hb | skip); all_goals (try (exfalso; omega))))
  all_goals (apply ret1; exact rfl; exact ⟨rfl, by (repeat (first | exact dt_end | (apply dt_cons; · (repeat (first | exact sel0 | apply selS))) | apply dt_skip))⟩)
theorem firm_dealers (W : World) (h : List Chunk) (A : Option Addr) (c : Nat) (l : List PartyR) (hr : Reads W h A l.length 3 (l.flatMap PartyR.enc)) (hb : l.length ≤ 8) :
    QSpec Try.prog W 39 [.slice A l.length c] h (.int .u64 (maskTo l l.length)) := by
  refine QSpec.ofD (fun h' hs => ?_)
  have hr' := hr.mono hs
  refine spec_body Try.func39 rfl rfl Try.results39 Try.ntmps39 rfl rfl ?_
  refine aw_reads hr' rfl (fun hA => ?_)
  repeat' (first
    | apply aw_seq | apply aw_region | apply aw_ret | apply aw_skip | apply aw_exit | apply aw_block | apply es_nil
    | (apply es_pure hT; (iterate 4 exact rfl)) | (apply es_skip; (iterate 3 exact rfl)) | (apply es_skip0; (iterate 2 exact rfl))
    | (apply es_i64 hT; (iterate 4 exact rfl); (iterate 2 (first | omega | (dsimp only; omega))))
    | (apply aw_draw [] [] hmix; decide +kernel)
    | (apply es_load; (iterate 5 exact rfl); first | (apply ld_blk hT; exact rfl; exact rfl; (repeat (first | exact List.mem_cons_self | apply List.mem_cons_of_mem)); exact rfl; exact rfl) | (apply ld_all hT; exact rfl; exact rfl; (repeat (first | exact List.mem_cons_self | apply List.mem_cons_of_mem)); exact rfl))
    | (apply es_box; (iterate 5 exact rfl); intro _) | (apply es_alloc hT; (iterate 5 exact rfl); intro _)
    | (apply aw_condT; (iterate 2 exact rfl)) | (apply aw_condF; (iterate 2 exact rfl))
    | (apply es_case; exact rfl; all_goals intro hb; all_goals (fail_if_success (change true = true at hb)); all_goals (fail_if_success (change false = false at hb)); all_goals (try dsimp only at hb); all_goals (try simp only [hb]); all_goals (first | replace hb := of_decide_eq_true hb | replace hb := of_decide_eq_false hb | replace hb := bne_t hb | replace hb := bne_f hb | replace hb := eq_of_beq hb | replace hb := ne_of_beq_false hb | skip); all_goals (try (exfalso; omega)))
    | (apply aw_cond; exact rfl; all_goals intro hb; all_goals (try dsimp only at hb); all_goals (try simp only [hb]); all_goals (first | replace hb := of_decide_eq_true hb | replace hb := of_decide_eq_false hb | replace hb := bne_t hb | replace hb := bne_f hb | replace hb := eq_of_beq hb | replace hb := ne_of_beq_false hb | skip); all_goals (try (exfalso; omega))))
  refine aw_loopD (α := Nat) (E := fun k => [(3, .int .u64 (maskTo l k)), (6, .slice A l.length c), (7, .int .i64 l.length), (8, .int .i64 k)]) (H := fun _ => h') (μ := fun k => l.length - k)
    (S := fun k => k ≤ l.length) 0 (Nat.zero_le _) ⟨rfl, rfl, rfl, rfl, trivial⟩ (by (repeat (first | exact dt_end | (apply dt_cons; · (repeat (first | exact sel0 | apply selS))) | apply dt_skip))) ?_
  intro k hk
  by_cases hlt : k < l.length
  · obtain ⟨x, hx⟩ : ∃ x, l[k]? = some x := ⟨l[k]'(by omega), List.getElem?_eq_getElem (by omega)⟩
    have hx2 : l[(k : Int).toNat]? = some x := by simpa using hx
    have hA' := hA (by omega)
    have hd1 : decide ((k : Int) < (l.length : Int)) = true := by simp; omega
    have hst := maskTo_step hx
    have hor := or_pow (maskTo_lt l k) (show k < 64 by omega)
    repeat' (first
      | apply aw_seq | apply aw_region | apply aw_ret | apply aw_skip | apply aw_exit | apply aw_block | apply es_nil
      | (apply es_pure hT; (iterate 4 exact rfl)) | (apply es_skip; (iterate 3 exact rfl)) | (apply es_skip0; (iterate 2 exact rfl))
      | (apply es_i64 hT; (iterate 4 exact rfl); (iterate 2 (first | omega | (dsimp only; omega))))
      | (apply aw_draw [] [] hmix; decide +kernel)
      | (apply es_idx hT; (iterate 8 exact rfl); (iterate 2 omega); exact hA')
      | (apply es_load; (iterate 5 exact rfl); exact ld_elem hT rfl rfl (hr'.mono (by intro c hc; first | exact hc | exact List.mem_cons_of_mem _ hc)) PartyR.enc_len rfl hx2 rfl)
      | (apply es_store hT; (iterate 6 exact rfl); (repeat (first | exact sel0 | apply selS)); (iterate 3 exact rfl); exact Nat.le_of_ble_eq_true rfl)
      | (apply es_shl; (iterate 5 exact rfl); omega)
      | (apply es_bits; (iterate 6 exact rfl))
      | (apply es_load; (iterate 5 exact rfl); first | (apply ld_blk hT; exact rfl; exact rfl; (repeat (first | exact List.mem_cons_self | apply List.mem_cons_of_mem)); exact rfl; exact rfl) | (apply ld_all hT; exact rfl; exact rfl; (repeat (first | exact List.mem_cons_self | apply List.mem_cons_of_mem)); exact rfl))
      | (apply es_box; (iterate 5 exact rfl); intro _) | (apply es_alloc hT; (iterate 5 exact rfl); intro _)
      | (apply aw_condT; (iterate 2 exact rfl)) | (apply aw_condF; (iterate 2 exact rfl))
      | (apply es_case; exact rfl; all_goals intro hb; all_goals (fail_if_success (change true = true at hb)); all_goals (fail_if_success (change false = false at hb)); all_goals (try dsimp only at hb); all_goals (try simp only [hb]); all_goals (first | replace hb := of_decide_eq_true hb | replace hb := of_decide_eq_false hb | replace hb := bne_t hb | replace hb := bne_f hb | replace hb := eq_of_beq hb | replace hb := ne_of_beq_false hb | skip); all_goals (try (exfalso; omega)))
      | (apply aw_cond; exact rfl; all_goals intro hb; all_goals (try dsimp only at hb); all_goals (try simp only [hb]); all_goals (first | replace hb := of_decide_eq_true hb | replace hb := of_decide_eq_false hb | replace hb := bne_t hb | replace hb := bne_f hb | replace hb := eq_of_beq hb | replace hb := ne_of_beq_false hb | skip); all_goals (try (exfalso; omega))))
    all_goals first
      | (exfalso; omega)
      | exact loopq_end (k + 1) (by (try dsimp only); omega) (by (try dsimp only); omega) ⟨by (try dsimp only); rw [hst, if_pos ‹_›, ← hor]; rfl, rfl, rfl, rfl, trivial⟩ (by (repeat (first | exact dt_end | (apply dt_cons; · (repeat (first | exact sel0 | apply selS))) | apply dt_skip)))
      | exact loopq_end (k + 1) (by (try dsimp only); omega) (by (try dsimp only); omega) ⟨by (try dsimp only); rw [hst, if_neg ‹_›]; rfl, rfl, rfl, rfl, trivial⟩ (by (repeat (first | exact dt_end | (apply dt_cons; · (repeat (first | exact sel0 | apply selS))) | apply dt_skip)))
      | skip
  · obtain rfl : k = l.length := by omega
    have hd1 : decide ((l.length : Int) < (l.length : Int)) = false := by simp
    repeat' (first
      | apply aw_seq | apply aw_region | apply aw_ret | apply aw_skip | apply aw_exit | apply aw_block | apply es_nil
      | (apply es_pure hT; (iterate 4 exact rfl)) | (apply es_skip; (iterate 3 exact rfl)) | (apply es_skip0; (iterate 2 exact rfl))
      | (apply es_i64 hT; (iterate 4 exact rfl); (iterate 2 (first | omega | (dsimp only; omega))))
      | (apply aw_draw [] [] hmix; decide +kernel)
      | (apply es_load; (iterate 5 exact rfl); first | (apply ld_blk hT; exact rfl; exact rfl; (repeat (first | exact List.mem_cons_self | apply List.mem_cons_of_mem)); exact rfl; exact rfl) | (apply ld_all hT; exact rfl; exact rfl; (repeat (first | exact List.mem_cons_self | apply List.mem_cons_of_mem)); exact rfl))
      | (apply es_box; (iterate 5 exact rfl); intro _) | (apply es_alloc hT; (iterate 5 exact rfl); intro _)
      | (apply aw_condT; (iterate 2 exact rfl)) | (apply aw_condF; (iterate 2 exact rfl))
      | (apply es_case; exact rfl; all_goals intro hb; all_goals (fail_if_success (change true = true at hb)); all_goals (fail_if_success (change false = false at hb)); all_goals (try dsimp only at hb); all_goals (try simp only [hb]); all_goals (first | replace hb := of_decide_eq_true hb | replace hb := of_decide_eq_false hb | replace hb := bne_t hb | replace hb := bne_f hb | replace hb := eq_of_beq hb | replace hb := ne_of_beq_false hb | skip); all_goals (try (exfalso; omega)))
      | (apply aw_cond; exact rfl; all_goals intro hb; all_goals (try dsimp only at hb); all_goals (try simp only [hb]); all_goals (first | replace hb := of_decide_eq_true hb | replace hb := of_decide_eq_false hb | replace hb := bne_t hb | replace hb := bne_f hb | replace hb := eq_of_beq hb | replace hb := ne_of_beq_false hb | skip); all_goals (try (exfalso; omega))))
    all_goals first
      | (exfalso; omega)
      | (apply ret1; exact rfl; exact ⟨rfl, by (repeat (first | exact dt_end | (apply dt_cons; · (repeat (first | exact sel0 | apply selS))) | apply dt_skip))⟩)
theorem firm_isParty (W : World) (p : PartyR) (all : Int) : QSpec Try.prog W 41 [.agg p.enc.toArray, .int .u64 all] [] (.bool (isParty p all)) := by
  refine QSpec.ofD (fun h' hs => ?_)
  refine spec_body Try.func41 rfl rfl Try.results41 Try.ntmps41 rfl rfl ?_
  repeat' (first
    | apply aw_seq | apply aw_region | apply aw_ret | apply aw_skip | apply aw_exit | apply aw_block | apply es_nil
    | (apply es_pure hT; (iterate 4 exact rfl)) | (apply es_skip; (iterate 3 exact rfl)) | (apply es_skip0; (iterate 2 exact rfl))
    | (apply es_i64 hT; (iterate 4 exact rfl); (iterate 2 (first | omega | (dsimp only; omega))))
    | (apply aw_draw [] [] hmix; decide +kernel)
    | (apply es_bits; (iterate 6 exact rfl))
    | (apply es_callQ (hs := ((firm_in W _ _ _).mono (by simp))); (iterate 7 exact rfl))
    | (apply es_load; (iterate 5 exact rfl); first | (apply ld_blk hT; exact rfl; exact rfl; (repeat (first | exact List.mem_cons_self | apply List.mem_cons_of_mem)); exact rfl; exact rfl) | (apply ld_all hT; exact rfl; exact rfl; (repeat (first | exact List.mem_cons_self | apply List.mem_cons_of_mem)); exact rfl))
    | (apply es_box; (iterate 5 exact rfl); intro _) | (apply es_alloc hT; (iterate 5 exact rfl); intro _)
    | (apply aw_condT; (iterate 2 exact rfl)) | (apply aw_condF; (iterate 2 exact rfl))
    | (apply es_case; exact rfl; all_goals intro hb; all_goals (fail_if_success (change true = true at hb)); all_goals (fail_if_success (change false = false at hb)); all_goals (try dsimp only at hb); all_goals (try simp only [hb]); all_goals (first | replace hb := of_decide_eq_true hb | replace hb := of_decide_eq_false hb | replace hb := bne_t hb | replace hb := bne_f hb | replace hb := eq_of_beq hb | replace hb := ne_of_beq_false hb | skip); all_goals (try (exfalso; omega)))
    | (apply aw_cond; exact rfl; all_goals intro hb; all_goals (try dsimp only at hb); all_goals (try simp only [hb]); all_goals (first | replace hb := of_decide_eq_true hb | replace hb := of_decide_eq_false hb | replace hb := bne_t hb | replace hb := bne_f hb | replace hb := eq_of_beq hb | replace hb := ne_of_beq_false hb | skip); all_goals (try (exfalso; omega))))
  all_goals first
    | (apply ret1; exact rfl; exact ⟨by simp_all [isParty], by (repeat (first | exact dt_end | (apply dt_cons; · (repeat (first | exact sel0 | apply selS))) | apply dt_skip))⟩)
    | skip
theorem firm_Is2 (W : World) (p : PartyR) (all : Int) (g : Nat) : QSpec Try.prog W 40 [.agg p.enc.toArray, .pointer (some ⟨g, 0, none⟩)] [.blk g 23 [.int .u64 all]] (.bool (!isParty p all)) := by
  refine QSpec.ofD (fun h' hs => ?_)
  have m0 := hs _ mem0
  refine spec_body Try.func40 rfl rfl Try.results40 Try.ntmps40 rfl rfl ?_
  repeat' (first
    | apply aw_seq | apply aw_region | apply aw_ret | apply aw_skip | apply aw_exit | apply aw_block | apply es_nil
    | (apply es_pure hT; (iterate 4 exact rfl)) | (apply es_skip; (iterate 3 exact rfl)) | (apply es_skip0; (iterate 2 exact rfl))
    | (apply es_i64 hT; (iterate 4 exact rfl); (iterate 2 (first | omega | (dsimp only; omega))))
    | (apply aw_draw [] [] hmix; decide +kernel)
    | (apply es_callQ (hs := ((firm_isParty W p all).mono (by simp))); (iterate 7 exact rfl))
    | (apply es_load; (iterate 5 exact rfl); first | (apply ld_blk hT; exact rfl; exact rfl; (repeat (first | exact List.mem_cons_self | exact m0 | apply List.mem_cons_of_mem)); exact rfl; exact rfl) | (apply ld_all hT; exact rfl; exact rfl; (repeat (first | exact List.mem_cons_self | exact m0 | apply List.mem_cons_of_mem)); exact rfl))
    | (apply es_box; (iterate 5 exact rfl); intro _) | (apply es_alloc hT; (iterate 5 exact rfl); intro _)
    | (apply aw_condT; (iterate 2 exact rfl)) | (apply aw_condF; (iterate 2 exact rfl))
    | (apply es_case; exact rfl; all_goals intro hb; all_goals (fail_if_success (change true = true at hb)); all_goals (fail_if_success (change false = false at hb)); all_goals (try dsimp only at hb); all_goals (try simp only [hb]); all_goals (first | replace hb := of_decide_eq_true hb | replace hb := of_decide_eq_false hb | replace hb := bne_t hb | replace hb := bne_f hb | replace hb := eq_of_beq hb | replace hb := ne_of_beq_false hb | skip); all_goals (try (exfalso; omega)))
    | (apply aw_cond; exact rfl; all_goals intro hb; all_goals (try dsimp only at hb); all_goals (try simp only [hb]); all_goals (first | replace hb := of_decide_eq_true hb | replace hb := of_decide_eq_false hb | replace hb := bne_t hb | replace hb := bne_f hb | replace hb := eq_of_beq hb | replace hb := ne_of_beq_false hb | skip); all_goals (try (exfalso; omega))))
  all_goals (apply ret1; exact rfl; exact ⟨rfl, by (repeat (first | exact dt_end | (apply dt_cons; · (repeat (first | exact sel0 | apply selS))) | apply dt_skip))⟩)
end Go.Proofs.Ytjcnaeengplcbaa

set_option linter.unusedSimpArgs false
set_option linter.unusedVariables false
namespace Go.Proofs.Ytjcnaeengplcbaa
open Go Go.Sl
attribute [local irreducible] AW ES EP Ld RetQ
set_option maxRecDepth 100000

theorem all_idx {α : Type} {q : α → Bool} {l : List α} : decide (idxOf (fun x => !q x) l ≥ 0) = !(l.all q) := by
  by_cases h : l.all q = true
  · rw [h]
    have : idxOf (fun x => !q x) l < 0 := idxOf_neg'.2 (fun x hx => by simp [List.all_eq_true.1 h x hx])
    simp; omega
  · have : ¬ idxOf (fun x => !q x) l < 0 := fun hn => h (List.all_eq_true.2 (fun x hx => by simpa using idxOf_neg'.1 hn x hx))
    rw [decide_eq_true (by omega), Bool.eq_false_iff.2 h]; rfl
def rulesV (AB : Option Addr) (nb cB : Nat) (AP : Option Addr) (np cP : Nat) (look beat : Int) : Value := .agg #[.slice AB nb cB, .slice AP np cP, .int .i64 look, .int .i64 beat]
theorem firm_Is (W : World) (h : List Chunk) (AB : Option Addr) (cB : Nat) (bs : List BondR) (AP : Option Addr) (cP : Nat) (ps : List PartyR) (look beat : Int) (hrB : Reads W h AB bs.length 7 (bs.flatMap BondR.enc)) (hrP : Reads W h AP ps.length 3 (ps.flatMap PartyR.enc)) (hb : bs.length ≤ 1000000) (hp : ps.length ≤ 1000000) :
    QSpec Try.prog W 16 [rulesV AB bs.length cB AP ps.length cP look beat] h (.bool (isR bs ps look beat)) := by
  refine QSpec.ofD (fun h' hs => ?_)
  have hcb : ∀ k, (∀ c ∈ h', c ∈ k) → QSpec Try.prog W 42 [.slice AB bs.length cB, .func (.func 37) #[] #[]] k (.bool (!bs.all isBond)) := fun k hk =>
    (containsFuncBondR W k AB bs.length cB bs rfl ((hrB.mono hs).mono hk) 37 [] (fun x => !isBond x) (fun x _ => (firm_Is1 W x).mono (by simp)) (by omega)).cast (by rw [all_idx])
  have hcp : ∀ g k, (∀ c ∈ h', c ∈ k) → Chunk.blk g 23 [.int .u64 (maskTo ps ps.length)] ∈ k → QSpec Try.prog W 43 [.slice AP ps.length cP, .func (.func 40) #[] #[.pointer (some ⟨g, 0, none⟩)]] k (.bool (!ps.all (fun p => isParty p (maskTo ps ps.length)))) := fun g k hk hm =>
    (containsFuncPartyR W k AP ps.length cP ps rfl ((hrP.mono hs).mono hk) 40 [.pointer (some ⟨g, 0, none⟩)] (fun x => !isParty x (maskTo ps ps.length)) (fun x _ => (firm_Is2 W x _ g).mono (by simpa using hm)) (by omega)).cast (by rw [all_idx])
  have hdl := fun k hk (hl : ps.length ≤ 8) => firm_dealers W k AP cP ps ((hrP.mono hs).mono hk) hl
  generalize ha : bs.all isBond = a at hcb
  generalize hbb : (ps.all fun p => isParty p (maskTo ps ps.length)) = b at hcp
  refine spec_body Try.func16 rfl rfl Try.results16 Try.ntmps16 rfl rfl ?_
  repeat' (first
    | apply aw_seq | apply aw_region | apply aw_ret | apply aw_skip | apply aw_exit | apply aw_block | apply es_nil
    | (apply es_pure hT; (iterate 4 exact rfl)) | (apply es_skip; (iterate 3 exact rfl)) | (apply es_skip0; (iterate 2 exact rfl))
    | (apply es_i64 hT; (iterate 4 exact rfl); (iterate 2 (first | omega | (dsimp only; omega))))
    | (apply aw_draw [] [] hmix; decide +kernel)
    | (apply es_callQ (hs := ((firm_in W _ _ _).mono (by simp))); (iterate 7 exact rfl))
    | (apply es_callQ (hs := (hdl _ (by (first | exact fun _ h => h | exact fun _ h => .tail _ h | exact fun _ h => .tail _ (.tail _ h) | exact fun _ h => .tail _ (.tail _ (.tail _ h)) | exact fun _ h => .tail _ (.tail _ (.tail _ (.tail _ h))))) (by have := inB_t (show inB (ps.length : Int) 1 8 = true by simpa using ‹(!inB (ps.length : Int) 1 8) = false›); omega))); (iterate 7 exact rfl))
    | (apply es_alloc hT; (iterate 5 exact rfl); first | ((fail_if_success (have q := g4)); intro g4) | intro _)
    | (apply es_store hT; (iterate 6 exact rfl); (repeat (first | exact sel0 | apply selS)); (iterate 3 exact rfl); exact Nat.le_of_ble_eq_true rfl)
    | (apply es_callQ (hs := (hcb _ (by (first | exact fun _ h => h | exact fun _ h => .tail _ h | exact fun _ h => .tail _ (.tail _ h) | exact fun _ h => .tail _ (.tail _ (.tail _ h)) | exact fun _ h => .tail _ (.tail _ (.tail _ (.tail _ h))))))); (iterate 7 exact rfl))
    | (apply es_callQ (hs := (hcp g4 _ (by (first | exact fun _ h => h | exact fun _ h => .tail _ h | exact fun _ h => .tail _ (.tail _ h) | exact fun _ h => .tail _ (.tail _ (.tail _ h)) | exact fun _ h => .tail _ (.tail _ (.tail _ (.tail _ h))))) (by (repeat (first | exact List.mem_cons_self | apply List.mem_cons_of_mem))))); (iterate 7 exact rfl))
    | (apply es_load; (iterate 5 exact rfl); first | (apply ld_blk hT; exact rfl; exact rfl; (repeat (first | exact List.mem_cons_self | apply List.mem_cons_of_mem)); exact rfl; exact rfl) | (apply ld_all hT; exact rfl; exact rfl; (repeat (first | exact List.mem_cons_self | apply List.mem_cons_of_mem)); exact rfl))
    | (apply es_box; (iterate 5 exact rfl); intro _) | (apply es_alloc hT; (iterate 5 exact rfl); intro _)
    | (apply aw_condT; (iterate 2 exact rfl)) | (apply aw_condF; (iterate 2 exact rfl))
    | (apply es_case; exact rfl; all_goals intro hb; all_goals (fail_if_success (change true = true at hb)); all_goals (fail_if_success (change false = false at hb)); all_goals (try dsimp only at hb); all_goals (try simp only [hb]); all_goals (first | replace hb := of_decide_eq_true hb | replace hb := of_decide_eq_false hb | replace hb := bne_t hb | replace hb := bne_f hb | replace hb := eq_of_beq hb | replace hb := ne_of_beq_false hb | skip); all_goals (try (exfalso; omega)))
    | (apply aw_cond; exact rfl; all_goals intro hb; all_goals (try dsimp only at hb); all_goals (try simp only [hb]); all_goals (first | replace hb := of_decide_eq_true hb | replace hb := of_decide_eq_false hb | replace hb := bne_t hb | replace hb := bne_f hb | replace hb := eq_of_beq hb | replace hb := ne_of_beq_false hb | skip); all_goals (try (exfalso; omega))))
  all_goals first
    | (apply ret1; exact rfl; exact ⟨by unfold isR; rw [ha, hbb]; clear ha hbb hcb hcp hdl hrB hrP; simp_all, by (repeat (first | exact dt_end | (apply dt_cons; · (repeat (first | exact sel0 | apply selS))) | apply dt_skip))⟩)
    | skip
def firmTab (p : Nat) (A : Option Addr) (c : Nat) (U : Option Addr) (u : Nat) (ps : List PartyR) (used : List Int) (F : List Chunk) : List Chunk :=
  .blk p 110 [.slice A ps.length c, .slice U ps.length u] :: .own A ps.length c 66 3 (ps.flatMap PartyR.enc) :: .own U ps.length u 2 1 (used.map (Value.int .i64)) :: F
theorem firm_New (W : World) (h : List Chunk) (AB : Option Addr) (cB : Nat) (bs : List BondR) (AP : Option Addr) (cP : Nat) (ps : List PartyR) (look beat : Int) (hrB : Reads W h AB bs.length 7 (bs.flatMap BondR.enc)) (hrP : Reads W h AP ps.length 3 (ps.flatMap PartyR.enc)) (hb : bs.length ≤ 1000000) (hp : ps.length ≤ 1000000) :
    FSpec Try.prog W 26 [rulesV AB bs.length cB AP ps.length cP look beat] h
      (fun v h' => (isR bs ps look beat = false ∧ v = .pointer none ∧ h' = h) ∨ (isR bs ps look beat = true ∧ ∃ p A c U u, v = .pointer (some ⟨p, 0, none⟩) ∧ h' = firmTab p A c U u ps (List.replicate ps.length 0) h)) := by
  refine FSpec.dropTo ?_
  have hI := firm_Is W h AB cB bs AP cP ps look beat hrB hrP hb hp
  have hcl := fun k (hk : ∀ c ∈ h, c ∈ k) => clonePartyR W k AP ps.length cP (ps.flatMap PartyR.enc) (hrP.mono hk) (by omega)
  refine spec_body Try.func26 rfl rfl Try.results26 Try.ntmps26 rfl rfl ?_
  cases hR : isR bs ps look beat
  · rw [hR] at hI
    repeat' (first
      | apply aw_seq | apply aw_region | apply aw_ret | apply aw_skip | apply aw_exit | apply aw_block | apply es_nil
      | (apply es_pure hT; (iterate 4 exact rfl)) | (apply es_skip; (iterate 3 exact rfl)) | (apply es_skip0; (iterate 2 exact rfl))
      | (apply es_i64 hT; (iterate 4 exact rfl); (iterate 2 (first | omega | (dsimp only; omega))))
      | (apply aw_draw [] [] hmix; decide +kernel)
      | (apply es_callQ (hs := (hI.mono (by (first | exact fun _ h => h | exact fun _ h => .tail _ h | exact fun _ h => .tail _ (.tail _ h) | exact fun _ h => .tail _ (.tail _ (.tail _ h)) | exact fun _ h => .tail _ (.tail _ (.tail _ (.tail _ h))))))); (iterate 7 exact rfl))
      | (apply es_load; (iterate 5 exact rfl); first | (apply ld_blk hT; exact rfl; exact rfl; (repeat (first | exact List.mem_cons_self | apply List.mem_cons_of_mem)); exact rfl; exact rfl) | (apply ld_all hT; exact rfl; exact rfl; (repeat (first | exact List.mem_cons_self | apply List.mem_cons_of_mem)); exact rfl))
      | (apply es_box; (iterate 5 exact rfl); intro _) | (apply es_alloc hT; (iterate 5 exact rfl); intro _)
      | (apply aw_condT; (iterate 2 exact rfl)) | (apply aw_condF; (iterate 2 exact rfl))
      | (apply es_case; exact rfl; all_goals intro hb; all_goals (fail_if_success (change true = true at hb)); all_goals (fail_if_success (change false = false at hb)); all_goals (try dsimp only at hb); all_goals (try simp only [hb]); all_goals (first | replace hb := of_decide_eq_true hb | replace hb := of_decide_eq_false hb | replace hb := bne_t hb | replace hb := bne_f hb | replace hb := eq_of_beq hb | replace hb := ne_of_beq_false hb | skip); all_goals (try (exfalso; omega)))
      | (apply aw_cond; exact rfl; all_goals intro hb; all_goals (try dsimp only at hb); all_goals (try simp only [hb]); all_goals (first | replace hb := of_decide_eq_true hb | replace hb := of_decide_eq_false hb | replace hb := bne_t hb | replace hb := bne_f hb | replace hb := eq_of_beq hb | replace hb := ne_of_beq_false hb | skip); all_goals (try (exfalso; omega))))
    all_goals (apply ret1; exact rfl; exact ⟨h, by (repeat (first | exact dt_end | (apply dt_cons; · (repeat (first | exact sel0 | apply selS))) | apply dt_skip)), .inl ⟨rfl, rfl, rfl⟩⟩)
  · rw [hR] at hI
    repeat' (first
      | apply aw_seq | apply aw_region | apply aw_ret | apply aw_skip | apply aw_exit | apply aw_block | apply es_nil
      | (apply es_pure hT; (iterate 4 exact rfl)) | (apply es_skip; (iterate 3 exact rfl)) | (apply es_skip0; (iterate 2 exact rfl))
      | (apply es_i64 hT; (iterate 4 exact rfl); (iterate 2 (first | omega | (dsimp only; omega))))
      | (apply aw_treeD [] [] (.step 0 <| .step 1 <| .step 3 <| .alt (.step 2 <| .step 4 <| .step 5 <| .step 6 <| .step 7 <| .step 8 <| .step 9 <| .nil) ((.step 4 <| .step 5 <| .alt (.step 2 <| .step 6 <| .step 7 <| .step 8 <| .step 9 <| .nil) ((.step 6 <| .step 2 <| .step 7 <| .step 8 <| .step 9 <| .nil))))) hmix; decide +kernel) | apply ep_nil | apply ep_alt | (apply ep_step; exact rfl)
      | (apply es_callQ (hs := (hI.mono (by (first | exact fun _ h => h | exact fun _ h => .tail _ h | exact fun _ h => .tail _ (.tail _ h) | exact fun _ h => .tail _ (.tail _ (.tail _ h)) | exact fun _ h => .tail _ (.tail _ (.tail _ (.tail _ h))))))); (iterate 7 exact rfl))
      | (apply es_call (hs := (hcl _ (by (first | exact fun _ h => h | exact fun _ h => .tail _ h | exact fun _ h => .tail _ (.tail _ h) | exact fun _ h => .tail _ (.tail _ (.tail _ h)) | exact fun _ h => .tail _ (.tail _ (.tail _ (.tail _ h))))))); (iterate 7 exact rfl); rintro _ _ ⟨A1, c1, rfl, rfl⟩)
      | (apply es_makeSlice1 hT; (iterate 12 exact rfl); (iterate 1 exact rfl); omega; exact Nat.le_of_ble_eq_true rfl; intro g12)
      | (apply es_buildS hT (cs := [.slice A1 ps.length c1, .slice (some ⟨g12, 0, none⟩) ps.length ps.length]); (iterate 4 exact rfl))
      | (apply es_box; (iterate 5 exact rfl); intro g14)
      | (apply es_load; (iterate 5 exact rfl); first | (apply ld_blk hT; exact rfl; exact rfl; (repeat (first | exact List.mem_cons_self | apply List.mem_cons_of_mem)); exact rfl; exact rfl) | (apply ld_all hT; exact rfl; exact rfl; (repeat (first | exact List.mem_cons_self | apply List.mem_cons_of_mem)); exact rfl))
      | (apply es_box; (iterate 5 exact rfl); intro _) | (apply es_alloc hT; (iterate 5 exact rfl); intro _)
      | (apply aw_condT; (iterate 2 exact rfl)) | (apply aw_condF; (iterate 2 exact rfl))
      | (apply es_case; exact rfl; all_goals intro hb; all_goals (fail_if_success (change true = true at hb)); all_goals (fail_if_success (change false = false at hb)); all_goals (try dsimp only at hb); all_goals (try simp only [hb]); all_goals (first | replace hb := of_decide_eq_true hb | replace hb := of_decide_eq_false hb | replace hb := bne_t hb | replace hb := bne_f hb | replace hb := eq_of_beq hb | replace hb := ne_of_beq_false hb | skip); all_goals (try (exfalso; omega)))
      | (apply aw_cond; exact rfl; all_goals intro hb; all_goals (try dsimp only at hb); all_goals (try simp only [hb]); all_goals (first | replace hb := of_decide_eq_true hb | replace hb := of_decide_eq_false hb | replace hb := bne_t hb | replace hb := bne_f hb | replace hb := eq_of_beq hb | replace hb := ne_of_beq_false hb | skip); all_goals (try (exfalso; omega))))
    all_goals first
      | (apply ret1; exact rfl; exact ⟨firmTab g14 A1 c1 (some ⟨g12, 0, none⟩) ps.length ps (List.replicate ps.length 0) h, by unfold firmTab; rw [List.map_replicate]; (repeat (first | exact dt_end | (apply dt_cons; · (repeat (first | exact sel0 | apply selS))) | apply dt_skip)), .inr ⟨rfl, g14, A1, c1, some ⟨g12, 0, none⟩, ps.length, rfl, rfl⟩⟩)
      | skip
end Go.Proofs.Ytjcnaeengplcbaa

set_option linter.unusedSimpArgs false
set_option linter.unusedVariables false
namespace Go.Proofs.Ytjcnaeengplcbaa
open Go Go.Sl
attribute [local irreducible] AW ES EP Ld RetQ
set_option maxRecDepth 100000

structure PRow where
  A : Option Addr
  c : Nat
  l : List Int
def PRow.ck (r : PRow) : Chunk := .own r.A r.l.length r.c 2 1 (r.l.map (Value.int .i64))
def PRow.hd (r : PRow) : Value := .slice r.A r.l.length r.c
def posTab (p : Nat) (AC : Option Addr) (cC : Nat) (AR : Option Addr) (cR : Nat) (cash : List Int) (rs : List PRow) (F : List Chunk) : List Chunk :=
  .blk p 121 [.slice AR rs.length cR, .slice AC cash.length cC] :: .own AC cash.length cC 2 1 (cash.map (Value.int .i64)) :: .own AR rs.length cR 108 1 (rs.map PRow.hd) :: (rs.map PRow.ck ++ F)
def isPosN (np nb : Int) : Bool := decide (1 ≤ np) && decide (np ≤ 8) && (decide (1 ≤ nb) && decide (nb ≤ 4))
theorem pos_New (W : World) (h : List Chunk) (np nb : Int) : FSpec Try.prog W 32 [.int .i64 np, .int .i64 nb] h
    (fun v h' => (isPosN np nb = false ∧ v = .pointer none ∧ h' = h) ∨ (isPosN np nb = true ∧ ∃ p AC cC AR cR rs, v = .pointer (some ⟨p, 0, none⟩) ∧ h' = posTab p AC cC AR cR (List.replicate np.toNat 0) rs h ∧ rs.map PRow.l = List.replicate np.toNat (List.replicate nb.toNat 0))) := by
  refine FSpec.dropTo ?_
  refine spec_body Try.func32 rfl rfl Try.results32 Try.ntmps32 rfl rfl ?_
  by_cases hin : (1 ≤ np ∧ np ≤ 8) ∧ (1 ≤ nb ∧ nb ≤ 4)
  rotate_left
  · repeat' (first
      | apply aw_seq | apply aw_region | apply aw_ret | apply aw_skip | apply aw_exit | apply aw_block | apply es_nil
      | (apply es_pure hT; (iterate 4 exact rfl)) | (apply es_skip; (iterate 3 exact rfl)) | (apply es_skip0; (iterate 2 exact rfl))
      | (apply es_i64 hT; (iterate 4 exact rfl); (iterate 2 (first | omega | (dsimp only; omega))))
      | (apply aw_draw [] [] hmix; decide +kernel)
      | (apply es_load; (iterate 5 exact rfl); first | (apply ld_blk hT; exact rfl; exact rfl; (repeat (first | exact List.mem_cons_self | apply List.mem_cons_of_mem)); exact rfl; exact rfl) | (apply ld_all hT; exact rfl; exact rfl; (repeat (first | exact List.mem_cons_self | apply List.mem_cons_of_mem)); exact rfl))
      | (apply es_box; (iterate 5 exact rfl); intro _) | (apply es_alloc hT; (iterate 5 exact rfl); intro _)
      | (apply aw_condT; (iterate 2 exact rfl)) | (apply aw_condF; (iterate 2 exact rfl))
      | (apply es_case; exact rfl; all_goals intro hb; all_goals (fail_if_success (change true = true at hb)); all_goals (fail_if_success (change false = false at hb)); all_goals (try dsimp only at hb); all_goals (try simp only [hb]); all_goals (first | replace hb := of_decide_eq_true hb | replace hb := of_decide_eq_false hb | replace hb := bne_t hb | replace hb := bne_f hb | replace hb := eq_of_beq hb | replace hb := ne_of_beq_false hb | skip); all_goals (try (exfalso; omega)))
      | (apply aw_cond; exact rfl; all_goals intro hb; all_goals (try dsimp only at hb); all_goals (try simp only [hb]); all_goals (first | replace hb := of_decide_eq_true hb | replace hb := of_decide_eq_false hb | replace hb := bne_t hb | replace hb := bne_f hb | replace hb := eq_of_beq hb | replace hb := ne_of_beq_false hb | skip); all_goals (try (exfalso; omega))))
    all_goals first
      | (exfalso; omega)
      | (apply ret1; exact rfl; exact ⟨h, by (repeat (first | exact dt_end | (apply dt_cons; · (repeat (first | exact sel0 | apply selS))) | apply dt_skip)), .inl ⟨by unfold isPosN; simp; omega, rfl, rfl⟩⟩)
      | skip
  obtain ⟨⟨n1, n2⟩, n3, n4⟩ := hin
  have hp : isPosN np nb = true := by unfold isPosN; simp; omega
  rw [hp]
  obtain ⟨n, rfl⟩ := Int.eq_ofNat_of_zero_le (show 0 ≤ np by omega)
  obtain ⟨m, rfl⟩ := Int.eq_ofNat_of_zero_le (show 0 ≤ nb by omega)
  simp only [Int.toNat_natCast]
  repeat' (first
    | apply aw_seq | apply aw_region | apply aw_ret | apply aw_skip | apply aw_exit | apply aw_block | apply es_nil
    | (apply es_pure hT; (iterate 4 exact rfl)) | (apply es_skip; (iterate 3 exact rfl)) | (apply es_skip0; (iterate 2 exact rfl))
    | (apply es_i64 hT; (iterate 4 exact rfl); (iterate 2 (first | omega | (dsimp only; omega))))
    | (apply aw_draw [] [] hmix; decide +kernel)
    | (apply es_makeSlice1 hT; (iterate 12 exact rfl); (iterate 1 exact rfl); omega; exact Nat.le_of_ble_eq_true rfl; intro g21)
    | (apply es_buildS hT (cs := [.slice none 0 0, .slice (some ⟨g21, 0, none⟩) n n]); (iterate 4 exact rfl))
    | (apply es_box; (iterate 5 exact rfl); intro g23)
    | (apply es_load; (iterate 5 exact rfl); first | (apply ld_blk hT; exact rfl; exact rfl; (repeat (first | exact List.mem_cons_self | apply List.mem_cons_of_mem)); exact rfl; exact rfl) | (apply ld_all hT; exact rfl; exact rfl; (repeat (first | exact List.mem_cons_self | apply List.mem_cons_of_mem)); exact rfl))
    | (apply es_box; (iterate 5 exact rfl); intro _) | (apply es_alloc hT; (iterate 5 exact rfl); intro _)
    | (apply aw_condT; (iterate 2 exact rfl)) | (apply aw_condF; (iterate 2 exact rfl))
    | (apply es_case; exact rfl; all_goals intro hb; all_goals (fail_if_success (change true = true at hb)); all_goals (fail_if_success (change false = false at hb)); all_goals (try dsimp only at hb); all_goals (try simp only [hb]); all_goals (first | replace hb := of_decide_eq_true hb | replace hb := of_decide_eq_false hb | replace hb := bne_t hb | replace hb := bne_f hb | replace hb := eq_of_beq hb | replace hb := ne_of_beq_false hb | skip); all_goals (try (exfalso; omega)))
    | (apply aw_cond; exact rfl; all_goals intro hb; all_goals (try dsimp only at hb); all_goals (try simp only [hb]); all_goals (first | replace hb := of_decide_eq_true hb | replace hb := of_decide_eq_false hb | replace hb := bne_t hb | replace hb := bne_f hb | replace hb := eq_of_beq hb | replace hb := ne_of_beq_false hb | skip); all_goals (try (exfalso; omega))))
  all_goals try (exfalso; omega)
  refine aw_conv (fun w hw => ⟨_, hw.own_nil 108 1, ?_⟩)
  refine aw_loopD (α := Nat × Option Addr × Nat × List PRow) (E := fun x => [(0, .int .i64 n), (1, .int .i64 m), (5, .pointer (some ⟨g23, 0, none⟩)), (24, .int .i64 n), (25, .int .i64 x.1)])
    (H := fun x => posTab g23 (some ⟨g21, 0, none⟩) n x.2.1 x.2.2.1 (List.replicate n 0) x.2.2.2 h) (μ := fun x => n - x.1)
    (S := fun x => x.1 ≤ n ∧ x.2.2.2.map PRow.l = List.replicate x.1 (List.replicate m 0)) (0, none, 0, []) ⟨Nat.zero_le _, rfl⟩ ⟨rfl, rfl, rfl, rfl, rfl, trivial⟩ (by unfold posTab; rw [List.map_replicate, List.length_replicate]; (repeat (first | exact dt_end | (apply dt_cons; · (repeat (first | exact sel0 | apply selS))) | apply dt_skip))) ?_
  rintro ⟨k, AR, cR, rs⟩ ⟨hk, hrs⟩
  dsimp only at hk hrs ⊢
  have hlen : rs.length = k := by have := congrArg List.length hrs; simpa using this
  by_cases hlt : k < n
  · have hd1 : decide ((k : Int) < (n : Int)) = true := by simp; omega
    unfold posTab
    repeat' (first
      | apply aw_seq | apply aw_region | apply aw_ret | apply aw_skip | apply aw_exit | apply aw_block | apply es_nil
      | (apply es_pure hT; (iterate 4 exact rfl)) | (apply es_skip; (iterate 3 exact rfl)) | (apply es_skip0; (iterate 2 exact rfl))
      | (apply es_i64 hT; (iterate 4 exact rfl); (iterate 2 (first | omega | (dsimp only; omega))))
      | (apply aw_treeD [] [] (.step 0 <| .step 1 <| .step 2 <| .step 3 <| .step 4 <| .step 5 <| .step 6 <| .step 7 <| .step 8 <| .step 9 <| .step 10 <| .step 11 <| .nil) hmix; decide +kernel) | apply ep_nil | apply ep_alt | (apply ep_step; exact rfl)
      | (apply es_makeSlice1 hT; (iterate 12 exact rfl); (iterate 1 exact rfl); omega; exact Nat.le_of_ble_eq_true rfl; intro g33)
      | (apply es_buildSlice hT; (iterate 12 exact rfl); intro g34)
      | (apply es_append hT; (iterate 10 exact rfl); (repeat (first | exact sel0 | apply selS)); exact Reads.own mem0 rfl (List.all_eq_true.1 rfl); omega; (show (_ : Nat) * 24 ≤ _; omega); intro A' c')
      | (apply es_store hT; (iterate 6 exact rfl); (repeat (first | exact sel0 | apply selS)); (iterate 3 exact rfl); exact Nat.le_of_ble_eq_true rfl)
      | (apply es_load; (iterate 5 exact rfl); first | (apply ld_blk hT; exact rfl; exact rfl; (repeat (first | exact List.mem_cons_self | apply List.mem_cons_of_mem)); exact rfl; exact rfl) | (apply ld_all hT; exact rfl; exact rfl; (repeat (first | exact List.mem_cons_self | apply List.mem_cons_of_mem)); exact rfl))
      | (apply es_box; (iterate 5 exact rfl); intro _) | (apply es_alloc hT; (iterate 5 exact rfl); intro _)
      | (apply aw_condT; (iterate 2 exact rfl)) | (apply aw_condF; (iterate 2 exact rfl))
      | (apply es_case; exact rfl; all_goals intro hb; all_goals (fail_if_success (change true = true at hb)); all_goals (fail_if_success (change false = false at hb)); all_goals (try dsimp only at hb); all_goals (try simp only [hb]); all_goals (first | replace hb := of_decide_eq_true hb | replace hb := of_decide_eq_false hb | replace hb := bne_t hb | replace hb := bne_f hb | replace hb := eq_of_beq hb | replace hb := ne_of_beq_false hb | skip); all_goals (try (exfalso; omega)))
      | (apply aw_cond; exact rfl; all_goals intro hb; all_goals (try dsimp only at hb); all_goals (try simp only [hb]); all_goals (first | replace hb := of_decide_eq_true hb | replace hb := of_decide_eq_false hb | replace hb := bne_t hb | replace hb := bne_f hb | replace hb := eq_of_beq hb | replace hb := ne_of_beq_false hb | skip); all_goals (try (exfalso; omega))))
    all_goals first
      | (exfalso; omega)
      | (refine loopq_end (k + 1, A', c', rs ++ [⟨some ⟨g33, 0, none⟩, m, List.replicate m 0⟩]) (by dsimp only; omega) ⟨by dsimp only; omega, by dsimp only; rw [List.map_append, hrs, List.replicate_succ']; rfl⟩ ⟨rfl, rfl, rfl, rfl, rfl, trivial⟩ ?_
         dsimp only
         rw [List.length_append, List.map_append, List.map_append, List.append_assoc]
         simp only [List.map_cons, List.map_nil, PRow.hd, PRow.ck, List.length_replicate, List.map_replicate, List.length_cons, List.length_nil, List.cons_append, List.nil_append]
         apply dt_cons; (repeat (first | exact sel0 | apply selS))
         apply dt_cons; (repeat (first | exact sel0 | apply selS))
         apply dt_cons; (repeat (first | exact sel0 | apply selS))
         refine dt_mid ?_
         (repeat (first | exact dt_end | (apply dt_cons; · (repeat (first | exact sel0 | apply selS))) | apply dt_skip)))
      | skip
  · obtain rfl : k = n := by omega
    have hd1 : decide ((k : Int) < (k : Int)) = false := by simp
    repeat' (first
      | apply aw_seq | apply aw_region | apply aw_ret | apply aw_skip | apply aw_exit | apply aw_block | apply es_nil
      | (apply es_pure hT; (iterate 4 exact rfl)) | (apply es_skip; (iterate 3 exact rfl)) | (apply es_skip0; (iterate 2 exact rfl))
      | (apply es_i64 hT; (iterate 4 exact rfl); (iterate 2 (first | omega | (dsimp only; omega))))
      | (apply aw_draw [] [] hmix; decide +kernel)
      | (apply es_load; (iterate 5 exact rfl); first | (apply ld_blk hT; exact rfl; exact rfl; (repeat (first | exact List.mem_cons_self | apply List.mem_cons_of_mem)); exact rfl; exact rfl) | (apply ld_all hT; exact rfl; exact rfl; (repeat (first | exact List.mem_cons_self | apply List.mem_cons_of_mem)); exact rfl))
      | (apply es_box; (iterate 5 exact rfl); intro _) | (apply es_alloc hT; (iterate 5 exact rfl); intro _)
      | (apply aw_condT; (iterate 2 exact rfl)) | (apply aw_condF; (iterate 2 exact rfl))
      | (apply es_case; exact rfl; all_goals intro hb; all_goals (fail_if_success (change true = true at hb)); all_goals (fail_if_success (change false = false at hb)); all_goals (try dsimp only at hb); all_goals (try simp only [hb]); all_goals (first | replace hb := of_decide_eq_true hb | replace hb := of_decide_eq_false hb | replace hb := bne_t hb | replace hb := bne_f hb | replace hb := eq_of_beq hb | replace hb := ne_of_beq_false hb | skip); all_goals (try (exfalso; omega)))
      | (apply aw_cond; exact rfl; all_goals intro hb; all_goals (try dsimp only at hb); all_goals (try simp only [hb]); all_goals (first | replace hb := of_decide_eq_true hb | replace hb := of_decide_eq_false hb | replace hb := bne_t hb | replace hb := bne_f hb | replace hb := eq_of_beq hb | replace hb := ne_of_beq_false hb | skip); all_goals (try (exfalso; omega))))
    all_goals first
      | (exfalso; omega)
      | (apply ret1; exact rfl; exact ⟨_, dt_end, .inr ⟨by trivial, g23, _, _, _, _, _, rfl, rfl, hrs⟩⟩)
end Go.Proofs.Ytjcnaeengplcbaa

set_option linter.unusedSimpArgs false
set_option linter.unusedVariables false
namespace Go.Sl
open Go
theorem es_bitsV {P : Program} {W : World} {N : Nat} {env : Env} {h : List Chunk} {kf : KF} {ops : Array Oper} {K : Env → List Chunk → Prop} {rest : List Oper} {b : Bool} {e f r : Int} {k : IntKind} {op : BinOp} {d : Tmp} {t yt : TypeId} {x y : Operand} {ty pos af g} (hg : evalG ops env g = some b) (hb : b = true) (hd : Nat.blt d N = true) (hop : isBits op = true) (hx : evalE env x = some (.int k e)) (hy : evalE env y = some (.int k f)) (hv : bitI op k e f = r)
    (hK : ES P W N kf ops rest ((d, .int k r) :: env) h K) : ES P W N kf ops (⟨some d, .binOp op t x y yt, ty, pos, af, g⟩ :: rest) env h K := es_bits hg hb hd hop hx hy (by rw [hv]; exact hK)
end Go.Sl
namespace Go.Proofs.Ytjcnaeengplcbaa
open Go Go.Sl
attribute [local irreducible] AW ES EP Ld RetQ
set_option maxRecDepth 100000

theorem quote_NewN (W : World) (h : List Chunk) : FSpec Try.prog W 29 [] h (fun v h' => ∃ p, v = .pointer (some ⟨p, 0, none⟩) ∧ h' = .blk p 113 [.slice none 0 0] :: h) := by
  refine spec_body Try.func29 rfl rfl Try.results29 Try.ntmps29 rfl rfl ?_
  repeat' (first
    | apply aw_seq | apply aw_region | apply aw_ret | apply aw_skip | apply aw_exit | apply aw_block | apply es_nil
    | (apply es_pure hT; (iterate 4 exact rfl)) | (apply es_skip; (iterate 3 exact rfl)) | (apply es_skip0; (iterate 2 exact rfl))
    | (apply es_i64 hT; (iterate 4 exact rfl); (iterate 2 (first | omega | (dsimp only; omega))))
    | (apply aw_draw [] [] hmix; decide +kernel)
    | (apply es_buildS hT (cs := [.slice none 0 0]); (iterate 4 exact rfl))
    | (apply es_load; (iterate 5 exact rfl); first | (apply ld_blk hT; exact rfl; exact rfl; (repeat (first | exact List.mem_cons_self | apply List.mem_cons_of_mem)); exact rfl; exact rfl) | (apply ld_all hT; exact rfl; exact rfl; (repeat (first | exact List.mem_cons_self | apply List.mem_cons_of_mem)); exact rfl))
    | (apply es_box; (iterate 5 exact rfl); intro _) | (apply es_alloc hT; (iterate 5 exact rfl); intro _)
    | (apply aw_condT; (iterate 2 exact rfl)) | (apply aw_condF; (iterate 2 exact rfl))
    | (apply es_case; exact rfl; all_goals intro hb; all_goals (fail_if_success (change true = true at hb)); all_goals (fail_if_success (change false = false at hb)); all_goals (try dsimp only at hb); all_goals (try simp only [hb]); all_goals (first | replace hb := of_decide_eq_true hb | replace hb := of_decide_eq_false hb | replace hb := bne_t hb | replace hb := bne_f hb | replace hb := eq_of_beq hb | replace hb := ne_of_beq_false hb | skip); all_goals (try (exfalso; omega)))
    | (apply aw_cond; exact rfl; all_goals intro hb; all_goals (try dsimp only at hb); all_goals (try simp only [hb]); all_goals (first | replace hb := of_decide_eq_true hb | replace hb := of_decide_eq_false hb | replace hb := bne_t hb | replace hb := bne_f hb | replace hb := eq_of_beq hb | replace hb := ne_of_beq_false hb | skip); all_goals (try (exfalso; omega))))
  all_goals (apply ret1; exact rfl; exact ⟨_, rfl, rfl⟩)
theorem ask_NewN (W : World) (h : List Chunk) : FSpec Try.prog W 30 [] h (fun v h' => ∃ p, v = .pointer (some ⟨p, 0, none⟩) ∧ h' = .blk p 115 [.slice none 0 0] :: h) := by
  refine spec_body Try.func30 rfl rfl Try.results30 Try.ntmps30 rfl rfl ?_
  repeat' (first
    | apply aw_seq | apply aw_region | apply aw_ret | apply aw_skip | apply aw_exit | apply aw_block | apply es_nil
    | (apply es_pure hT; (iterate 4 exact rfl)) | (apply es_skip; (iterate 3 exact rfl)) | (apply es_skip0; (iterate 2 exact rfl))
    | (apply es_i64 hT; (iterate 4 exact rfl); (iterate 2 (first | omega | (dsimp only; omega))))
    | (apply aw_draw [] [] hmix; decide +kernel)
    | (apply es_buildS hT (cs := [.slice none 0 0]); (iterate 4 exact rfl))
    | (apply es_load; (iterate 5 exact rfl); first | (apply ld_blk hT; exact rfl; exact rfl; (repeat (first | exact List.mem_cons_self | apply List.mem_cons_of_mem)); exact rfl; exact rfl) | (apply ld_all hT; exact rfl; exact rfl; (repeat (first | exact List.mem_cons_self | apply List.mem_cons_of_mem)); exact rfl))
    | (apply es_box; (iterate 5 exact rfl); intro _) | (apply es_alloc hT; (iterate 5 exact rfl); intro _)
    | (apply aw_condT; (iterate 2 exact rfl)) | (apply aw_condF; (iterate 2 exact rfl))
    | (apply es_case; exact rfl; all_goals intro hb; all_goals (fail_if_success (change true = true at hb)); all_goals (fail_if_success (change false = false at hb)); all_goals (try dsimp only at hb); all_goals (try simp only [hb]); all_goals (first | replace hb := of_decide_eq_true hb | replace hb := of_decide_eq_false hb | replace hb := bne_t hb | replace hb := bne_f hb | replace hb := eq_of_beq hb | replace hb := ne_of_beq_false hb | skip); all_goals (try (exfalso; omega)))
    | (apply aw_cond; exact rfl; all_goals intro hb; all_goals (try dsimp only at hb); all_goals (try simp only [hb]); all_goals (first | replace hb := of_decide_eq_true hb | replace hb := of_decide_eq_false hb | replace hb := bne_t hb | replace hb := bne_f hb | replace hb := eq_of_beq hb | replace hb := ne_of_beq_false hb | skip); all_goals (try (exfalso; omega))))
  all_goals (apply ret1; exact rfl; exact ⟨_, rfl, rfl⟩)
theorem due_NewN (W : World) (h : List Chunk) : FSpec Try.prog W 31 [] h (fun v h' => ∃ p, v = .pointer (some ⟨p, 0, none⟩) ∧ h' = .blk p 118 [.slice none 0 0] :: h) := by
  refine spec_body Try.func31 rfl rfl Try.results31 Try.ntmps31 rfl rfl ?_
  repeat' (first
    | apply aw_seq | apply aw_region | apply aw_ret | apply aw_skip | apply aw_exit | apply aw_block | apply es_nil
    | (apply es_pure hT; (iterate 4 exact rfl)) | (apply es_skip; (iterate 3 exact rfl)) | (apply es_skip0; (iterate 2 exact rfl))
    | (apply es_i64 hT; (iterate 4 exact rfl); (iterate 2 (first | omega | (dsimp only; omega))))
    | (apply aw_draw [] [] hmix; decide +kernel)
    | (apply es_buildS hT (cs := [.slice none 0 0]); (iterate 4 exact rfl))
    | (apply es_load; (iterate 5 exact rfl); first | (apply ld_blk hT; exact rfl; exact rfl; (repeat (first | exact List.mem_cons_self | apply List.mem_cons_of_mem)); exact rfl; exact rfl) | (apply ld_all hT; exact rfl; exact rfl; (repeat (first | exact List.mem_cons_self | apply List.mem_cons_of_mem)); exact rfl))
    | (apply es_box; (iterate 5 exact rfl); intro _) | (apply es_alloc hT; (iterate 5 exact rfl); intro _)
    | (apply aw_condT; (iterate 2 exact rfl)) | (apply aw_condF; (iterate 2 exact rfl))
    | (apply es_case; exact rfl; all_goals intro hb; all_goals (fail_if_success (change true = true at hb)); all_goals (fail_if_success (change false = false at hb)); all_goals (try dsimp only at hb); all_goals (try simp only [hb]); all_goals (first | replace hb := of_decide_eq_true hb | replace hb := of_decide_eq_false hb | replace hb := bne_t hb | replace hb := bne_f hb | replace hb := eq_of_beq hb | replace hb := ne_of_beq_false hb | skip); all_goals (try (exfalso; omega)))
    | (apply aw_cond; exact rfl; all_goals intro hb; all_goals (try dsimp only at hb); all_goals (try simp only [hb]); all_goals (first | replace hb := of_decide_eq_true hb | replace hb := of_decide_eq_false hb | replace hb := bne_t hb | replace hb := bne_f hb | replace hb := eq_of_beq hb | replace hb := ne_of_beq_false hb | skip); all_goals (try (exfalso; omega))))
  all_goals (apply ret1; exact rfl; exact ⟨_, rfl, rfl⟩)
theorem blot_NewN (W : World) (h : List Chunk) : FSpec Try.prog W 33 [] h (fun v h' => ∃ p, v = .pointer (some ⟨p, 0, none⟩) ∧ h' = .blk p 123 [.slice none 0 0, .int .u64 0] :: h) := by
  refine spec_body Try.func33 rfl rfl Try.results33 Try.ntmps33 rfl rfl ?_
  repeat' (first
    | apply aw_seq | apply aw_region | apply aw_ret | apply aw_skip | apply aw_exit | apply aw_block | apply es_nil
    | (apply es_pure hT; (iterate 4 exact rfl)) | (apply es_skip; (iterate 3 exact rfl)) | (apply es_skip0; (iterate 2 exact rfl))
    | (apply es_i64 hT; (iterate 4 exact rfl); (iterate 2 (first | omega | (dsimp only; omega))))
    | (apply aw_draw [] [] hmix; decide +kernel)
    | (apply es_buildS hT (cs := [.slice none 0 0, .int .u64 0]); (iterate 4 exact rfl))
    | (apply es_load; (iterate 5 exact rfl); first | (apply ld_blk hT; exact rfl; exact rfl; (repeat (first | exact List.mem_cons_self | apply List.mem_cons_of_mem)); exact rfl; exact rfl) | (apply ld_all hT; exact rfl; exact rfl; (repeat (first | exact List.mem_cons_self | apply List.mem_cons_of_mem)); exact rfl))
    | (apply es_box; (iterate 5 exact rfl); intro _) | (apply es_alloc hT; (iterate 5 exact rfl); intro _)
    | (apply aw_condT; (iterate 2 exact rfl)) | (apply aw_condF; (iterate 2 exact rfl))
    | (apply es_case; exact rfl; all_goals intro hb; all_goals (fail_if_success (change true = true at hb)); all_goals (fail_if_success (change false = false at hb)); all_goals (try dsimp only at hb); all_goals (try simp only [hb]); all_goals (first | replace hb := of_decide_eq_true hb | replace hb := of_decide_eq_false hb | replace hb := bne_t hb | replace hb := bne_f hb | replace hb := eq_of_beq hb | replace hb := ne_of_beq_false hb | skip); all_goals (try (exfalso; omega)))
    | (apply aw_cond; exact rfl; all_goals intro hb; all_goals (try dsimp only at hb); all_goals (try simp only [hb]); all_goals (first | replace hb := of_decide_eq_true hb | replace hb := of_decide_eq_false hb | replace hb := bne_t hb | replace hb := bne_f hb | replace hb := eq_of_beq hb | replace hb := ne_of_beq_false hb | skip); all_goals (try (exfalso; omega))))
  all_goals (apply ret1; exact rfl; exact ⟨_, rfl, rfl⟩)
theorem book_NewN (W : World) (h : List Chunk) : FSpec Try.prog W 34 [] h (fun v h' => ∃ p, v = .pointer (some ⟨p, 0, none⟩) ∧ h' = .blk p 126 [.slice none 0 0] :: h) := by
  refine spec_body Try.func34 rfl rfl Try.results34 Try.ntmps34 rfl rfl ?_
  repeat' (first
    | apply aw_seq | apply aw_region | apply aw_ret | apply aw_skip | apply aw_exit | apply aw_block | apply es_nil
    | (apply es_pure hT; (iterate 4 exact rfl)) | (apply es_skip; (iterate 3 exact rfl)) | (apply es_skip0; (iterate 2 exact rfl))
    | (apply es_i64 hT; (iterate 4 exact rfl); (iterate 2 (first | omega | (dsimp only; omega))))
    | (apply aw_draw [] [] hmix; decide +kernel)
    | (apply es_buildS hT (cs := [.slice none 0 0]); (iterate 4 exact rfl))
    | (apply es_load; (iterate 5 exact rfl); first | (apply ld_blk hT; exact rfl; exact rfl; (repeat (first | exact List.mem_cons_self | apply List.mem_cons_of_mem)); exact rfl; exact rfl) | (apply ld_all hT; exact rfl; exact rfl; (repeat (first | exact List.mem_cons_self | apply List.mem_cons_of_mem)); exact rfl))
    | (apply es_box; (iterate 5 exact rfl); intro _) | (apply es_alloc hT; (iterate 5 exact rfl); intro _)
    | (apply aw_condT; (iterate 2 exact rfl)) | (apply aw_condF; (iterate 2 exact rfl))
    | (apply es_case; exact rfl; all_goals intro hb; all_goals (fail_if_success (change true = true at hb)); all_goals (fail_if_success (change false = false at hb)); all_goals (try dsimp only at hb); all_goals (try simp only [hb]); all_goals (first | replace hb := of_decide_eq_true hb | replace hb := of_decide_eq_false hb | replace hb := bne_t hb | replace hb := bne_f hb | replace hb := eq_of_beq hb | replace hb := ne_of_beq_false hb | skip); all_goals (try (exfalso; omega)))
    | (apply aw_cond; exact rfl; all_goals intro hb; all_goals (try dsimp only at hb); all_goals (try simp only [hb]); all_goals (first | replace hb := of_decide_eq_true hb | replace hb := of_decide_eq_false hb | replace hb := bne_t hb | replace hb := bne_f hb | replace hb := eq_of_beq hb | replace hb := ne_of_beq_false hb | skip); all_goals (try (exfalso; omega))))
  all_goals (apply ret1; exact rfl; exact ⟨_, rfl, rfl⟩)
def kb1 : BondR := ⟨5, 10, 10, 100, 5, 500, false⟩
def kb2 : BondR := ⟨1, 1, 1, 1000, 1, 1000, false⟩
def kps : List PartyR := [⟨1, 12, 0⟩, ⟨1, 4, 0⟩, ⟨2, 0, 100000⟩, ⟨2, 0, 3000⟩, ⟨3, 0, 0⟩]
theorem rules_0 (W : World) (h : List Chunk) : FSpec Try.prog W 12 [.int .i64 0] h
    (fun v h' => ∃ g1 g2, v = rulesV (some ⟨g1, 0, none⟩) 2 2 (some ⟨g2, 0, none⟩) 5 5 3 50 ∧ h' = .own (some ⟨g1, 0, none⟩) 2 2 64 7 ([kb1, kb2].flatMap BondR.enc) :: .own (some ⟨g2, 0, none⟩) 5 5 66 3 (kps.flatMap PartyR.enc) :: h) := by
  refine FSpec.dropTo ?_
  refine spec_body Try.func12 rfl rfl Try.results12 Try.ntmps12 rfl rfl ?_
  repeat' (first
    | apply aw_seq | apply aw_region | apply aw_ret | apply aw_skip | apply aw_exit | apply aw_block | apply es_nil
    | (apply es_pure hT; (iterate 4 exact rfl)) | (apply es_skip; (iterate 3 exact rfl)) | (apply es_skip0; (iterate 2 exact rfl))
    | (apply es_i64 hT; (iterate 4 exact rfl); (iterate 2 (first | omega | (dsimp only; omega))))
    | (apply aw_draw [] [] hmix; decide +kernel)
    | (apply es_buildS hT (cs := BondR.enc kb1); (iterate 4 exact rfl))
    | (apply es_buildS hT (cs := BondR.enc kb2); (iterate 4 exact rfl))
    | (apply es_buildS hT (cs := PartyR.enc ⟨1, 12, 0⟩); (iterate 4 exact rfl))
    | (apply es_buildS hT (cs := PartyR.enc ⟨1, 4, 0⟩); (iterate 4 exact rfl))
    | (apply es_buildS hT (cs := PartyR.enc ⟨2, 0, 100000⟩); (iterate 4 exact rfl))
    | (apply es_buildS hT (cs := PartyR.enc ⟨2, 0, 3000⟩); (iterate 4 exact rfl))
    | (apply es_buildS hT (cs := PartyR.enc ⟨3, 0, 0⟩); (iterate 4 exact rfl))
    | (apply es_buildSlice hT; (iterate 12 exact rfl); first | ((fail_if_success (have q := g10)); intro g10) | intro g16)
    | (apply es_buildS hT (cs := (rulesV (some ⟨g10, 0, none⟩) 2 2 (some ⟨g16, 0, none⟩) 5 5 3 50).cells.toList); (iterate 4 exact rfl))
    | (apply es_bitsV; (iterate 6 exact rfl); exact (by decide +kernel : bitI .and .i64 0 3 = 0))
    | (apply es_store hT; (iterate 6 exact rfl); (repeat (first | exact sel0 | apply selS)); (iterate 3 exact rfl); exact Nat.le_of_ble_eq_true rfl)
    | (apply es_load; (iterate 5 exact rfl); first | (apply ld_blk hT; exact rfl; exact rfl; (repeat (first | exact List.mem_cons_self | apply List.mem_cons_of_mem)); exact rfl; exact rfl) | (apply ld_all hT; exact rfl; exact rfl; (repeat (first | exact List.mem_cons_self | apply List.mem_cons_of_mem)); exact rfl))
    | (apply es_box; (iterate 5 exact rfl); intro _) | (apply es_alloc hT; (iterate 5 exact rfl); intro _)
    | (apply aw_condT; (iterate 2 exact rfl)) | (apply aw_condF; (iterate 2 exact rfl))
    | (apply es_case; exact rfl; all_goals intro hb; all_goals (fail_if_success (change true = true at hb)); all_goals (fail_if_success (change false = false at hb)); all_goals (try dsimp only at hb); all_goals (try simp only [hb]); all_goals (first | replace hb := of_decide_eq_true hb | replace hb := of_decide_eq_false hb | replace hb := bne_t hb | replace hb := bne_f hb | replace hb := eq_of_beq hb | replace hb := ne_of_beq_false hb | skip); all_goals (try (exfalso; omega)))
    | (apply aw_cond; exact rfl; all_goals intro hb; all_goals (try dsimp only at hb); all_goals (try simp only [hb]); all_goals (first | replace hb := of_decide_eq_true hb | replace hb := of_decide_eq_false hb | replace hb := bne_t hb | replace hb := bne_f hb | replace hb := eq_of_beq hb | replace hb := ne_of_beq_false hb | skip); all_goals (try (exfalso; omega))))
  all_goals first
    | (apply ret1c; exact rfl; (apply ld_all hT; exact rfl; exact rfl; (repeat (first | exact List.mem_cons_self | apply List.mem_cons_of_mem)); exact rfl); exact ⟨_, (by show DropTo _ (.own (some ⟨g10, 0, none⟩) 2 2 64 7 ([kb1, kb2].flatMap BondR.enc) :: .own (some ⟨g16, 0, none⟩) 5 5 66 3 (kps.flatMap PartyR.enc) :: h); (repeat (first | exact dt_end | (apply dt_cons; · (repeat (first | exact sel0 | apply selS))) | apply dt_skip))), g10, g16, rfl, rfl⟩)
    | skip
end Go.Proofs.Ytjcnaeengplcbaa

set_option linter.unusedSimpArgs false
set_option linter.unusedVariables false
namespace Go.Proofs.Ytjcnaeengplcbaa
open Go Go.Sl

structure Dk where
  bonds : List BondR
  parties : List PartyR
  look : Int
  beat : Int
  now : Int
  books : List (List Order)
  used : List Int
  quotes : List Quote
  asks : List AskR
  due : List Due
  cash : List Int
  pos : List (List Int)
  trades : List TradeR
  head : Int
  order : Int
  seq : Int
  quote : Int
  ask : Int
def newDk (bs : List BondR) (ps : List PartyR) (look beat : Int) : Dk :=
  ⟨bs, ps, look, beat, 0, List.replicate bs.length [], List.replicate ps.length 0, [], [], [], List.replicate ps.length 0, List.replicate ps.length (List.replicate bs.length 0), [], 0, 0, 0, 0, 0⟩
/-- where a slice lies: its first cell, its room -/
structure Sp where
  A : Option Addr
  c : Nat
def Sp.sl (s : Sp) (n : Nat) : Value := .slice s.A n s.c
def Sp.own (s : Sp) (n : Nat) (t : TypeId) (k : Nat) (cs : List Value) : Chunk := .own s.A n s.c t k cs
/-- a book: where it lies, its orders -/
structure BAd where
  p : Nat
  s : Sp
  l : List Order
def BAd.ptr (b : BAd) : Value := .pointer (some ⟨b.p, 0, none⟩)
def BAd.ck (b : BAd) : List Chunk := [.blk b.p 126 [b.s.sl b.l.length], b.s.own b.l.length 129 6 (b.l.flatMap Order.enc)]
/-- where a desk's parts lie -/
structure DAd where
  d : Nat
  f : Nat
  q : Nat
  a : Nat
  u : Nat
  p : Nat
  b : Nat
  bonds : Sp
  parties : Sp
  books : Sp
  fparties : Sp
  used : Sp
  quotes : Sp
  asks : Sp
  due : Sp
  cash : Sp
  pos : Sp
  trades : Sp
def ptrV (n : Nat) : Value := .pointer (some ⟨n, 0, none⟩)
def deskCs (x : DAd) (s : Dk) : List Value := [x.bonds.sl s.bonds.length, x.parties.sl s.parties.length, .int .i64 s.look, .int .i64 s.beat, .int .i64 s.now, x.books.sl s.books.length, ptrV x.f, ptrV x.q, ptrV x.a, ptrV x.u, ptrV x.p, ptrV x.b,
  .int .i64 s.order, .int .i64 s.seq, .int .i64 s.quote, .int .i64 s.ask]
def deskTab (x : DAd) (s : Dk) (bks : List BAd) (rows : List PRow) (F : List Chunk) : List Chunk :=
  .blk x.d 82 (deskCs x s) :: x.bonds.own s.bonds.length 64 7 (s.bonds.flatMap BondR.enc) :: x.parties.own s.parties.length 66 3 (s.parties.flatMap PartyR.enc)
    :: x.books.own s.books.length 50 1 (bks.map BAd.ptr)
    :: .blk x.f 110 [x.fparties.sl s.parties.length, x.used.sl s.parties.length] :: x.fparties.own s.parties.length 66 3 (s.parties.flatMap PartyR.enc) :: x.used.own s.parties.length 2 1 (s.used.map (Value.int .i64))
    :: .blk x.q 113 [x.quotes.sl s.quotes.length] :: x.quotes.own s.quotes.length 188 6 (s.quotes.flatMap Quote.enc)
    :: .blk x.a 115 [x.asks.sl s.asks.length] :: x.asks.own s.asks.length 25 10 (s.asks.flatMap AskR.enc)
    :: .blk x.u 118 [x.due.sl s.due.length] :: x.due.own s.due.length 190 3 (s.due.flatMap Due.enc)
    :: .blk x.p 121 [x.pos.sl rows.length, x.cash.sl s.cash.length] :: x.cash.own s.cash.length 2 1 (s.cash.map (Value.int .i64)) :: x.pos.own rows.length 108 1 (rows.map PRow.hd)
    :: .blk x.b 123 [x.trades.sl s.trades.length, .int .u64 s.head] :: x.trades.own s.trades.length 96 8 (s.trades.flatMap TradeR.enc)
    :: (bks.flatMap BAd.ck ++ (rows.map PRow.ck ++ F))
/-- the memory fits the state -/
def deskFits (s : Dk) (bks : List BAd) (rows : List PRow) : Prop := bks.map BAd.l = s.books ∧ rows.map PRow.l = s.pos
end Go.Proofs.Ytjcnaeengplcbaa

set_option linter.unusedSimpArgs false
set_option linter.unusedVariables false
namespace Go.Proofs.Ytjcnaeengplcbaa
open Go Go.Sl
attribute [local irreducible] AW ES EP Ld RetQ
set_option maxRecDepth 100000

theorem book_NewT (W : World) (h : List Chunk) : FSpec Try.prog W 34 [] h (fun v h' => ∃ p, v = .pointer (some ⟨p, 0, none⟩) ∧ h' = .blk p 126 [.slice none 0 0] :: .own none 0 0 129 6 [] :: h) := by
  refine FSpec.conv (book_NewN W h) ?_
  rintro v h' ⟨p, rfl, rfl⟩ w hw
  exact ⟨_, (hw.own_nil 129 6).perm sel1, p, rfl, rfl⟩
/-- a new desk that has so many books yet -/
def newDkN (bs : List BondR) (ps : List PartyR) (look beat : Int) (k : Nat) : Dk := { newDk bs ps look beat with books := List.replicate k [] }
theorem isR_len {bs : List BondR} {ps : List PartyR} {look beat : Int} (h : isR bs ps look beat = true) : (1 ≤ bs.length ∧ bs.length ≤ 4) ∧ (1 ≤ ps.length ∧ ps.length ≤ 8) ∧ (1 ≤ look ∧ look ≤ 1000) := by
  unfold isR at h
  simp only [Bool.and_eq_true] at h
  have h1 := inB_t h.1.1
  have h2 := inB_t h.1.2
  have h3 := inB_t h.2.1.2
  omega
set_option maxHeartbeats 2000000 in
theorem desk_New (W : World) (h : List Chunk) (AB : Option Addr) (cB : Nat) (bs : List BondR) (AP : Option Addr) (cP : Nat) (ps : List PartyR) (look beat : Int) (hrB : Reads W h AB bs.length 7 (bs.flatMap BondR.enc)) (hrP : Reads W h AP ps.length 3 (ps.flatMap PartyR.enc)) (hb : bs.length ≤ 1000000) (hp : ps.length ≤ 1000000) :
    FSpec Try.prog W 13 [rulesV AB bs.length cB AP ps.length cP look beat] h
      (fun v h' => (isR bs ps look beat = false ∧ v = .pointer none ∧ h' = h) ∨ (isR bs ps look beat = true ∧ ∃ x bks rows, v = ptrV x.d ∧ h' = deskTab x (newDk bs ps look beat) bks rows h ∧ deskFits (newDk bs ps look beat) bks rows)) := by
  refine FSpec.dropTo ?_
  have hF := fun k (hk : ∀ c ∈ h, c ∈ k) => firm_New W k AB cB bs AP cP ps look beat (hrB.mono hk) (hrP.mono hk) hb hp
  have hcb := fun k (hk : ∀ c ∈ h, c ∈ k) => cloneBondR W k AB bs.length cB (bs.flatMap BondR.enc) (hrB.mono hk) (by omega)
  have hcl := fun k (hk : ∀ c ∈ h, c ∈ k) => clonePartyR W k AP ps.length cP (ps.flatMap PartyR.enc) (hrP.mono hk) (by omega)
  refine spec_body Try.func13 rfl rfl Try.results13 Try.ntmps13 rfl rfl ?_
  cases hR : isR bs ps look beat
  · have hF0 := fun k hk => (hF k hk).mono (R' := fun v h' => v = .pointer none ∧ h' = k) (fun v h' hh => by
      rcases hh with ⟨_, a, b⟩ | ⟨a, _⟩
      · exact ⟨a, b⟩
      · rw [hR] at a; cases a)
    repeat' (first
      | apply aw_seq | apply aw_region | apply aw_ret | apply aw_skip | apply aw_exit | apply aw_block | apply es_nil
      | (apply es_pure hT; (iterate 4 exact rfl)) | (apply es_skip; (iterate 3 exact rfl)) | (apply es_skip0; (iterate 2 exact rfl))
      | (apply es_i64 hT; (iterate 4 exact rfl); (iterate 2 (first | omega | (dsimp only; omega))))
      | (apply aw_draw [] [] hmix; decide +kernel)
      | (apply es_call (hs := (hF0 _ (by (intro c hc; (repeat (first | exact hc | apply List.mem_cons_of_mem | apply List.mem_append_right)))))); (iterate 7 exact rfl); rintro _ _ ⟨rfl, rfl⟩)
      | (apply es_load; (iterate 5 exact rfl); first | (apply ld_blk hT; exact rfl; exact rfl; (repeat (first | exact List.mem_cons_self | apply List.mem_cons_of_mem | apply List.mem_append_right)); exact rfl; exact rfl) | (apply ld_all hT; exact rfl; exact rfl; (repeat (first | exact List.mem_cons_self | apply List.mem_cons_of_mem | apply List.mem_append_right)); exact rfl))
      | (apply es_box; (iterate 5 exact rfl); intro _) | (apply es_alloc hT; (iterate 5 exact rfl); intro _)
      | (apply aw_condT; (iterate 2 exact rfl)) | (apply aw_condF; (iterate 2 exact rfl))
      | (apply es_case; exact rfl; all_goals intro hb; all_goals (fail_if_success (change true = true at hb)); all_goals (fail_if_success (change false = false at hb)); all_goals (try dsimp only at hb); all_goals (try simp only [hb]); all_goals (first | replace hb := of_decide_eq_true hb | replace hb := of_decide_eq_false hb | replace hb := bne_t hb | replace hb := bne_f hb | replace hb := eq_of_beq hb | replace hb := ne_of_beq_false hb | skip); all_goals (try (exfalso; omega)))
      | (apply aw_cond; exact rfl; all_goals intro hb; all_goals (try dsimp only at hb); all_goals (try simp only [hb]); all_goals (first | replace hb := of_decide_eq_true hb | replace hb := of_decide_eq_false hb | replace hb := bne_t hb | replace hb := bne_f hb | replace hb := eq_of_beq hb | replace hb := ne_of_beq_false hb | skip); all_goals (try (exfalso; omega))))
    all_goals (apply ret1; exact rfl; exact ⟨h, by (repeat (first | exact dt_end | (apply dt_cons; · (repeat (first | exact sel0 | apply selS | apply selApp))) | apply dt_skip | apply dt_both)), .inl ⟨rfl, rfl, rfl⟩⟩)
  · obtain ⟨⟨b1, b2⟩, ⟨p1, p2⟩, _⟩ := isR_len hR
    have hF1 := fun k hk => (hF k hk).mono (R' := fun v h' => ∃ p A c U u, v = .pointer (some ⟨p, 0, none⟩) ∧ h' = firmTab p A c U u ps (List.replicate ps.length 0) k) (fun v h' hh => by
      rcases hh with ⟨a, _⟩ | ⟨_, a⟩
      · rw [hR] at a; cases a
      · exact a)
    have hps : isPosN ps.length bs.length = true := by unfold isPosN; simp; omega
    have hP1 := fun k => (pos_New W k ps.length bs.length).mono (R' := fun v h' => ∃ p AC cC AR cR rs, v = .pointer (some ⟨p, 0, none⟩) ∧ h' = posTab p AC cC AR cR (List.replicate ps.length 0) rs k ∧ rs.map PRow.l = List.replicate ps.length (List.replicate bs.length 0)) (fun v h' hh => by
      rcases hh with ⟨a, _⟩ | ⟨_, a⟩
      · rw [hps] at a; cases a
      · exact a)
    repeat' (first
      | apply aw_seq | apply aw_region | apply aw_ret | apply aw_skip | apply aw_exit | apply aw_block | apply es_nil
      | (apply es_pure hT; (iterate 4 exact rfl)) | (apply es_skip; (iterate 3 exact rfl)) | (apply es_skip0; (iterate 2 exact rfl))
      | (apply es_i64 hT; (iterate 4 exact rfl); (iterate 2 (first | omega | (dsimp only; omega))))
      | (apply aw_treeD [] [29, 30, 31, 32, 33] (.step 0 <| .step 1 <| .step 5 <| .step 6 <| .step 7 <| .step 8 <| .step 9 <| .step 10 <| .step 2 <| .step 3 <| .step 4 <| .step 11 <| .step 12 <| .step 13 <| .step 14 <| .step 15 <| .nil) hmix; decide +kernel) | apply ep_nil | apply ep_alt | (apply ep_step; exact rfl)
      | (apply aw_treeD [] [] (.step 0 <| .step 1 <| .step 3 <| .alt (.step 2 <| .step 4 <| .step 6 <| .step 5 <| .step 7 <| .step 8 <| .step 9 <| .nil) ((.step 4 <| .step 2 <| .step 6 <| .step 5 <| .step 7 <| .step 8 <| .step 9 <| .nil))) hmix; decide +kernel) | apply ep_nil | apply ep_alt | (apply ep_step; exact rfl)
      | (apply es_call (hs := (hF1 _ (by (intro c hc; (repeat (first | exact hc | apply List.mem_cons_of_mem | apply List.mem_append_right)))))); (iterate 7 exact rfl); rintro _ _ ⟨pf, Af, cf, Uf, uf, rfl, rfl⟩)
      | (apply es_call (hs := (hcb _ (by (intro c hc; (repeat (first | exact hc | apply List.mem_cons_of_mem | apply List.mem_append_right)))))); (iterate 7 exact rfl); rintro _ _ ⟨A1, c1, rfl, rfl⟩)
      | (apply es_call (hs := (hcl _ (by (intro c hc; (repeat (first | exact hc | apply List.mem_cons_of_mem | apply List.mem_append_right)))))); (iterate 7 exact rfl); rintro _ _ ⟨A2, c2, rfl, rfl⟩)
      | (apply es_callA (hs := (quote_NewN W _)); (iterate 7 exact rfl); (rintro _ _ ⟨pq, rfl, rfl⟩; refine ⟨[_], rfl, ?_⟩))
      | (apply es_callA (hs := (ask_NewN W _)); (iterate 7 exact rfl); (rintro _ _ ⟨pa, rfl, rfl⟩; refine ⟨[_], rfl, ?_⟩))
      | (apply es_callA (hs := (due_NewN W _)); (iterate 7 exact rfl); (rintro _ _ ⟨pu, rfl, rfl⟩; refine ⟨[_], rfl, ?_⟩))
      | (apply es_callA (hs := (blot_NewN W _)); (iterate 7 exact rfl); (rintro _ _ ⟨pb, rfl, rfl⟩; refine ⟨[_], rfl, ?_⟩))
      | (apply es_callA (hs := (hP1 _)); (iterate 7 exact rfl); (rintro _ _ ⟨pp, AC, cC, AR, cR, rows, rfl, rfl, hrows⟩; refine ⟨_ :: _ :: _ :: rows.map PRow.ck, rfl, ?_⟩))
      | (apply es_store hT; (iterate 6 exact rfl); (repeat (first | exact sel0 | apply selS | apply selApp)); (iterate 3 exact rfl); exact Nat.le_of_ble_eq_true rfl)
      | (apply es_buildS hT (cs := [.slice A1 bs.length c1, .slice A2 ps.length c2, .int .i64 look, .int .i64 beat, .int .i64 0, .slice none 0 0, ptrV pf, ptrV pq, ptrV pa, ptrV pu, ptrV pp, ptrV pb, .int .i64 0, .int .i64 0, .int .i64 0, .int .i64 0]); (iterate 4 exact rfl))
      | (apply es_box; (iterate 5 exact rfl); intro gd)
      | (apply es_load; (iterate 5 exact rfl); first | (apply ld_blk hT; exact rfl; exact rfl; (repeat (first | exact List.mem_cons_self | apply List.mem_cons_of_mem | apply List.mem_append_right)); exact rfl; exact rfl) | (apply ld_all hT; exact rfl; exact rfl; (repeat (first | exact List.mem_cons_self | apply List.mem_cons_of_mem | apply List.mem_append_right)); exact rfl))
      | (apply es_box; (iterate 5 exact rfl); intro _) | (apply es_alloc hT; (iterate 5 exact rfl); intro _)
      | (apply aw_condT; (iterate 2 exact rfl)) | (apply aw_condF; (iterate 2 exact rfl))
      | (apply es_case; exact rfl; all_goals intro hb; all_goals (fail_if_success (change true = true at hb)); all_goals (fail_if_success (change false = false at hb)); all_goals (try dsimp only at hb); all_goals (try simp only [hb]); all_goals (first | replace hb := of_decide_eq_true hb | replace hb := of_decide_eq_false hb | replace hb := bne_t hb | replace hb := bne_f hb | replace hb := eq_of_beq hb | replace hb := ne_of_beq_false hb | skip); all_goals (try (exfalso; omega)))
      | (apply aw_cond; exact rfl; all_goals intro hb; all_goals (try dsimp only at hb); all_goals (try simp only [hb]); all_goals (first | replace hb := of_decide_eq_true hb | replace hb := of_decide_eq_false hb | replace hb := bne_t hb | replace hb := bne_f hb | replace hb := eq_of_beq hb | replace hb := ne_of_beq_false hb | skip); all_goals (try (exfalso; omega))))
    all_goals try (exfalso; omega)
    all_goals
      refine aw_conv (fun w hw => ⟨_, ((((hw.own_nil 50 1).own_nil 188 6).own_nil 25 10).own_nil 190 3).own_nil 96 8, ?_⟩)
      refine aw_loopD (α := Nat × Sp × List BAd) (E := fun x => [(4, ptrV gd), (34, .int .i64 bs.length), (35, .int .i64 x.1)])
        (H := fun x => deskTab ⟨gd, pf, pq, pa, pu, pp, pb, ⟨A1, c1⟩, ⟨A2, c2⟩, x.2.1, ⟨Af, cf⟩, ⟨Uf, uf⟩, ⟨none, 0⟩, ⟨none, 0⟩, ⟨none, 0⟩, ⟨AC, cC⟩, ⟨AR, cR⟩, ⟨none, 0⟩⟩ (newDkN bs ps look beat x.1) x.2.2 rows h) (μ := fun x => bs.length - x.1)
        (S := fun x => x.1 ≤ bs.length ∧ x.2.2.map BAd.l = List.replicate x.1 []) (0, ⟨none, 0⟩, []) ⟨Nat.zero_le _, rfl⟩ ⟨rfl, rfl, rfl, trivial⟩ ?_ ?_
      · simp only [deskTab, deskCs, newDkN, newDk, Sp.sl, Sp.own, firmTab, posTab, List.length_replicate, List.map_replicate, List.length_nil, List.flatMap_nil, List.map_nil, List.replicate_zero, List.nil_append]
        (repeat (first | exact dt_end | (apply dt_cons; · (repeat (first | exact sel0 | apply selS | apply selApp))) | apply dt_skip | apply dt_both))
      · rintro ⟨k, sp, bks⟩ ⟨hk, hbk⟩
        dsimp only at hk hbk ⊢
        have hlen : bks.length = k := by have := congrArg List.length hbk; simpa using this
        by_cases hlt : k < bs.length
        · have hd1 : decide ((k : Int) < (bs.length : Int)) = true := by simp; omega
          simp only [deskTab, deskCs, newDkN, newDk, Sp.sl, Sp.own, List.length_replicate, List.map_replicate, List.length_nil, List.flatMap_nil, List.map_nil]
          repeat' (first
            | apply aw_seq | apply aw_region | apply aw_ret | apply aw_skip | apply aw_exit | apply aw_block | apply es_nil
            | (apply es_pure hT; (iterate 4 exact rfl)) | (apply es_skip; (iterate 3 exact rfl)) | (apply es_skip0; (iterate 2 exact rfl))
            | (apply es_i64 hT; (iterate 4 exact rfl); (iterate 2 (first | omega | (dsimp only; omega))))
            | (apply aw_treeD [] [] (.step 0 <| .step 1 <| .step 2 <| .step 3 <| .alt (.step 4 <| .step 5 <| .step 6 <| .step 7 <| .step 8 <| .step 9 <| .step 10 <| .nil) ((.step 5 <| .step 4 <| .step 6 <| .step 7 <| .step 8 <| .step 9 <| .step 10 <| .nil))) hmix; decide +kernel) | apply ep_nil | apply ep_alt | (apply ep_step; exact rfl)
            | (apply es_call (hs := (book_NewT W _)); (iterate 7 exact rfl); rintro _ _ ⟨pk, rfl, rfl⟩)
            | (apply es_buildSlice hT; (iterate 12 exact rfl); intro g43)
            | (apply es_append hT; (iterate 10 exact rfl); (repeat (first | exact sel0 | apply selS | apply selApp)); exact Reads.own mem0 rfl (List.all_eq_true.1 rfl); omega; (show (_ : Nat) * 8 ≤ _; omega); intro A' c')
            | (apply es_store hT; (iterate 6 exact rfl); (repeat (first | exact sel0 | apply selS | apply selApp)); (iterate 3 exact rfl); exact Nat.le_of_ble_eq_true rfl)
            | (apply es_load; (iterate 5 exact rfl); first | (apply ld_blk hT; exact rfl; exact rfl; (repeat (first | exact List.mem_cons_self | apply List.mem_cons_of_mem | apply List.mem_append_right)); exact rfl; exact rfl) | (apply ld_all hT; exact rfl; exact rfl; (repeat (first | exact List.mem_cons_self | apply List.mem_cons_of_mem | apply List.mem_append_right)); exact rfl))
            | (apply es_box; (iterate 5 exact rfl); intro _) | (apply es_alloc hT; (iterate 5 exact rfl); intro _)
            | (apply aw_condT; (iterate 2 exact rfl)) | (apply aw_condF; (iterate 2 exact rfl))
            | (apply es_case; exact rfl; all_goals intro hb; all_goals (fail_if_success (change true = true at hb)); all_goals (fail_if_success (change false = false at hb)); all_goals (try dsimp only at hb); all_goals (try simp only [hb]); all_goals (first | replace hb := of_decide_eq_true hb | replace hb := of_decide_eq_false hb | replace hb := bne_t hb | replace hb := bne_f hb | replace hb := eq_of_beq hb | replace hb := ne_of_beq_false hb | skip); all_goals (try (exfalso; omega)))
            | (apply aw_cond; exact rfl; all_goals intro hb; all_goals (try dsimp only at hb); all_goals (try simp only [hb]); all_goals (first | replace hb := of_decide_eq_true hb | replace hb := of_decide_eq_false hb | replace hb := bne_t hb | replace hb := bne_f hb | replace hb := eq_of_beq hb | replace hb := ne_of_beq_false hb | skip); all_goals (try (exfalso; omega))))
          all_goals try (exfalso; omega)
          all_goals
            refine loopq_end (k + 1, ⟨A', c'⟩, bks ++ [⟨pk, ⟨none, 0⟩, []⟩]) (by dsimp only; omega) ⟨by dsimp only; omega, by dsimp only; rw [List.map_append, hbk, List.replicate_succ']; rfl⟩ ⟨rfl, rfl, rfl, trivial⟩ ?_
            dsimp only
            rw [List.map_append, List.flatMap_append, List.append_assoc]
            simp only [List.flatMap_cons, List.flatMap_nil, BAd.ck, Sp.sl, Sp.own, List.cons_append, List.nil_append, List.append_nil, List.length_nil]
            iterate 18 (apply dt_cons; · (repeat (first | exact sel0 | apply selS | apply selApp)))
            refine dt_mid ?_
            apply dt_cons; · (repeat (first | exact sel0 | apply selS | apply selApp))
            refine dt_mid ?_
            apply dt_cons; · (repeat (first | exact sel0 | apply selS | apply selApp))
            (repeat (first | exact dt_end | (apply dt_cons; · (repeat (first | exact sel0 | apply selS | apply selApp))) | apply dt_skip | apply dt_both))
        · obtain rfl : k = bs.length := by omega
          have hd1 : decide ((bs.length : Int) < (bs.length : Int)) = false := by simp
          repeat' (first
            | apply aw_seq | apply aw_region | apply aw_ret | apply aw_skip | apply aw_exit | apply aw_block | apply es_nil
            | (apply es_pure hT; (iterate 4 exact rfl)) | (apply es_skip; (iterate 3 exact rfl)) | (apply es_skip0; (iterate 2 exact rfl))
            | (apply es_i64 hT; (iterate 4 exact rfl); (iterate 2 (first | omega | (dsimp only; omega))))
            | (apply aw_draw [] [] hmix; decide +kernel)
            | (apply es_load; (iterate 5 exact rfl); first | (apply ld_blk hT; exact rfl; exact rfl; (repeat (first | exact List.mem_cons_self | apply List.mem_cons_of_mem | apply List.mem_append_right)); exact rfl; exact rfl) | (apply ld_all hT; exact rfl; exact rfl; (repeat (first | exact List.mem_cons_self | apply List.mem_cons_of_mem | apply List.mem_append_right)); exact rfl))
            | (apply es_box; (iterate 5 exact rfl); intro _) | (apply es_alloc hT; (iterate 5 exact rfl); intro _)
            | (apply aw_condT; (iterate 2 exact rfl)) | (apply aw_condF; (iterate 2 exact rfl))
            | (apply es_case; exact rfl; all_goals intro hb; all_goals (fail_if_success (change true = true at hb)); all_goals (fail_if_success (change false = false at hb)); all_goals (try dsimp only at hb); all_goals (try simp only [hb]); all_goals (first | replace hb := of_decide_eq_true hb | replace hb := of_decide_eq_false hb | replace hb := bne_t hb | replace hb := bne_f hb | replace hb := eq_of_beq hb | replace hb := ne_of_beq_false hb | skip); all_goals (try (exfalso; omega)))
            | (apply aw_cond; exact rfl; all_goals intro hb; all_goals (try dsimp only at hb); all_goals (try simp only [hb]); all_goals (first | replace hb := of_decide_eq_true hb | replace hb := of_decide_eq_false hb | replace hb := bne_t hb | replace hb := bne_f hb | replace hb := eq_of_beq hb | replace hb := ne_of_beq_false hb | skip); all_goals (try (exfalso; omega))))
          all_goals first
            | (exfalso; omega)
            | (apply ret1; exact rfl; exact ⟨_, dt_end, .inr ⟨by trivial, ⟨gd, pf, pq, pa, pu, pp, pb, ⟨A1, c1⟩, ⟨A2, c2⟩, sp, ⟨Af, cf⟩, ⟨Uf, uf⟩, ⟨none, 0⟩, ⟨none, 0⟩, ⟨none, 0⟩, ⟨AC, cC⟩, ⟨AR, cR⟩, ⟨none, 0⟩⟩, bks, rows, rfl, rfl, hbk, hrows⟩⟩)
            | skip
end Go.Proofs.Ytjcnaeengplcbaa

set_option linter.unusedSimpArgs false
set_option linter.unusedVariables false
namespace Go.Proofs.Ytjcnaeengplcbaa
open Go Go.Sl
attribute [local irreducible] AW ES Ld RetQ
set_option maxRecDepth 100000

theorem cloneTradeR (W : World) (h : List Chunk) (A : Option Addr) (n c : Nat) (cs : List Value) (hr : Reads W h A n 8 cs) (hb : n * 64 ≤ 140737488355328) :
    FSpec Try.prog W 61 [.slice A n c] h (fun v h' => ∃ A' c', v = .slice A' n c' ∧ h' = .own A' n c' 96 8 cs :: h) := by
  refine FSpec.drop ?_
  refine spec_body Try.func61 rfl rfl Try.results61 Try.ntmps61 rfl rfl ?_
  refine aw_reads hr rfl (fun hA => ?_)
  cases A with
  | none =>
    have hn : n = 0 := by
      rcases Nat.eq_zero_or_pos n with h | h
      · exact h
      · have := hA h; simp at this
    subst hn
    have hcs : cs = [] := List.eq_nil_of_length_eq_zero (by simpa using hr.len)
    subst hcs
    refine aw_conv (fun w hw => ⟨_, hw.own_nil 96 8, ?_⟩)
    repeat' (first
      | apply aw_seq | apply aw_region | apply aw_ret | apply aw_skip | apply aw_exit | apply aw_block | apply es_nil
      | (apply es_pure hT; (iterate 4 exact rfl)) | (apply es_skip; (iterate 3 exact rfl)) | (apply es_skip0; (iterate 2 exact rfl))
      | (apply es_i64 hT; (iterate 4 exact rfl); (iterate 2 (first | omega | (dsimp only; omega))))
      | (apply aw_draw [] [] hmix; decide +kernel)
      | (apply es_load; (iterate 5 exact rfl); first | (apply ld_blk hT; exact rfl; exact rfl; (repeat (first | exact List.mem_cons_self | apply List.mem_cons_of_mem)); exact rfl; exact rfl) | (apply ld_all hT; exact rfl; exact rfl; (repeat (first | exact List.mem_cons_self | apply List.mem_cons_of_mem)); exact rfl))
      | (apply es_box; (iterate 5 exact rfl); intro _) | (apply es_alloc hT; (iterate 5 exact rfl); intro _)
      | (apply aw_condT; (iterate 2 exact rfl)) | (apply aw_condF; (iterate 2 exact rfl))
      | (apply es_case; exact rfl; all_goals intro hb; all_goals (fail_if_success (change true = true at hb)); all_goals (fail_if_success (change false = false at hb)); all_goals (try dsimp only at hb); all_goals (try simp only [hb]); all_goals (first | replace hb := of_decide_eq_true hb | replace hb := of_decide_eq_false hb | replace hb := bne_t hb | replace hb := bne_f hb | replace hb := eq_of_beq hb | replace hb := ne_of_beq_false hb | skip); all_goals (try (exfalso; omega)))
      | (apply aw_cond; exact rfl; all_goals intro hb; all_goals (try dsimp only at hb); all_goals (try simp only [hb]); all_goals (first | replace hb := of_decide_eq_true hb | replace hb := of_decide_eq_false hb | replace hb := bne_t hb | replace hb := bne_f hb | replace hb := eq_of_beq hb | replace hb := ne_of_beq_false hb | skip); all_goals (try (exfalso; omega))))
    apply ret1; exact rfl
    exact ⟨[], _, List.Perm.refl _, none, 0, rfl, rfl⟩
  | some ad =>
    repeat' (first
      | apply aw_seq | apply aw_region | apply aw_ret | apply aw_skip | apply aw_exit | apply aw_block | apply es_nil
      | (apply es_pure hT; (iterate 4 exact rfl)) | (apply es_skip; (iterate 3 exact rfl)) | (apply es_skip0; (iterate 2 exact rfl))
      | (apply es_i64 hT; (iterate 4 exact rfl); (iterate 2 (first | omega | (dsimp only; omega))))
      | (apply aw_draw [] [] hmix; decide +kernel)
      | (apply es_buildSlice hT; (iterate 12 exact rfl); intro g1)
      | (apply es_append hT; (iterate 10 exact rfl); exact sel0; exact hr.cons; omega; (show (0 + n) * 64 ≤ _; omega); intro A' c')
      | (apply es_load; (iterate 5 exact rfl); first | (apply ld_blk hT; exact rfl; exact rfl; (repeat (first | exact List.mem_cons_self | apply List.mem_cons_of_mem)); exact rfl; exact rfl) | (apply ld_all hT; exact rfl; exact rfl; (repeat (first | exact List.mem_cons_self | apply List.mem_cons_of_mem)); exact rfl))
      | (apply es_box; (iterate 5 exact rfl); intro _) | (apply es_alloc hT; (iterate 5 exact rfl); intro _)
      | (apply aw_condT; (iterate 2 exact rfl)) | (apply aw_condF; (iterate 2 exact rfl))
      | (apply es_case; exact rfl; all_goals intro hb; all_goals (fail_if_success (change true = true at hb)); all_goals (fail_if_success (change false = false at hb)); all_goals (try dsimp only at hb); all_goals (try simp only [hb]); all_goals (first | replace hb := of_decide_eq_true hb | replace hb := of_decide_eq_false hb | replace hb := bne_t hb | replace hb := bne_f hb | replace hb := eq_of_beq hb | replace hb := ne_of_beq_false hb | skip); all_goals (try (exfalso; omega)))
      | (apply aw_cond; exact rfl; all_goals intro hb; all_goals (try dsimp only at hb); all_goals (try simp only [hb]); all_goals (first | replace hb := of_decide_eq_true hb | replace hb := of_decide_eq_false hb | replace hb := bne_t hb | replace hb := bne_f hb | replace hb := eq_of_beq hb | replace hb := ne_of_beq_false hb | skip); all_goals (try (exfalso; omega))))
    apply ret1; exact rfl
    refine ⟨[], _, List.Perm.refl _, A', c', by rw [Nat.zero_add], ?_⟩
    show Chunk.own A' (0 + n) c' 96 8 ([] ++ cs) :: h = _
    simp

end Go.Proofs.Ytjcnaeengplcbaa

set_option linter.unusedSimpArgs false
set_option linter.unusedVariables false
namespace Go.Proofs.Ytjcnaeengplcbaa
open Go Go.Sl
attribute [local irreducible] AW ES Ld RetQ
set_option maxRecDepth 100000

theorem cloneAskR (W : World) (h : List Chunk) (A : Option Addr) (n c : Nat) (cs : List Value) (hr : Reads W h A n 10 cs) (hb : n * 80 ≤ 140737488355328) :
    FSpec Try.prog W 69 [.slice A n c] h (fun v h' => ∃ A' c', v = .slice A' n c' ∧ h' = .own A' n c' 25 10 cs :: h) := by
  refine FSpec.drop ?_
  refine spec_body Try.func69 rfl rfl Try.results69 Try.ntmps69 rfl rfl ?_
  refine aw_reads hr rfl (fun hA => ?_)
  cases A with
  | none =>
    have hn : n = 0 := by
      rcases Nat.eq_zero_or_pos n with h | h
      · exact h
      · have := hA h; simp at this
    subst hn
    have hcs : cs = [] := List.eq_nil_of_length_eq_zero (by simpa using hr.len)
    subst hcs
    refine aw_conv (fun w hw => ⟨_, hw.own_nil 25 10, ?_⟩)
    repeat' (first
      | apply aw_seq | apply aw_region | apply aw_ret | apply aw_skip | apply aw_exit | apply aw_block | apply es_nil
      | (apply es_pure hT; (iterate 4 exact rfl)) | (apply es_skip; (iterate 3 exact rfl)) | (apply es_skip0; (iterate 2 exact rfl))
      | (apply es_i64 hT; (iterate 4 exact rfl); (iterate 2 omega))
      | (apply aw_draw [] [] hmix; decide +kernel)
      | (apply es_load; (iterate 5 exact rfl); first | exact ld_blk hT rfl rfl mem0 rfl rfl | exact ld_all hT rfl rfl mem0 rfl)
      | (apply es_load; (iterate 5 exact rfl); first | exact ld_blk hT rfl rfl mem1 rfl rfl | exact ld_all hT rfl rfl mem1 rfl)
      | (apply es_load; (iterate 5 exact rfl); first | exact ld_blk hT rfl rfl mem2 rfl rfl | exact ld_all hT rfl rfl mem2 rfl)
      | (apply es_box; (iterate 5 exact rfl); intro _) | (apply es_alloc hT; (iterate 5 exact rfl); intro _)
      | (apply aw_condT; (iterate 2 exact rfl)) | (apply aw_condF; (iterate 2 exact rfl))
      | (apply es_case; exact rfl; all_goals intro hb; all_goals (try simp only [hb]); all_goals (first | replace hb := of_decide_eq_true hb | replace hb := of_decide_eq_false hb | replace hb := bne_t hb | replace hb := bne_f hb | skip); all_goals (try (exfalso; omega)))
      | (apply aw_cond; exact rfl; all_goals intro hb; all_goals (try simp only [hb]); all_goals (first | replace hb := of_decide_eq_true hb | replace hb := of_decide_eq_false hb | replace hb := bne_t hb | replace hb := bne_f hb | skip); all_goals (try (exfalso; omega))))
    apply ret1; exact rfl
    exact ⟨[], _, List.Perm.refl _, none, 0, rfl, rfl⟩
  | some ad =>
    repeat' (first
      | apply aw_seq | apply aw_region | apply aw_ret | apply aw_skip | apply aw_exit | apply aw_block | apply es_nil
      | (apply es_pure hT; (iterate 4 exact rfl)) | (apply es_skip; (iterate 3 exact rfl)) | (apply es_skip0; (iterate 2 exact rfl))
      | (apply es_i64 hT; (iterate 4 exact rfl); (iterate 2 omega))
      | (apply aw_draw [] [] hmix; decide +kernel)
      | (apply es_buildSlice hT; (iterate 12 exact rfl); intro g1)
      | (apply es_append hT; (iterate 10 exact rfl); exact sel0; exact hr.cons; omega; (show (0 + n) * 80 ≤ _; omega); intro A' c')
      | (apply es_load; (iterate 5 exact rfl); first | exact ld_blk hT rfl rfl mem0 rfl rfl | exact ld_all hT rfl rfl mem0 rfl)
      | (apply es_load; (iterate 5 exact rfl); first | exact ld_blk hT rfl rfl mem1 rfl rfl | exact ld_all hT rfl rfl mem1 rfl)
      | (apply es_load; (iterate 5 exact rfl); first | exact ld_blk hT rfl rfl mem2 rfl rfl | exact ld_all hT rfl rfl mem2 rfl)
      | (apply es_box; (iterate 5 exact rfl); intro _) | (apply es_alloc hT; (iterate 5 exact rfl); intro _)
      | (apply aw_condT; (iterate 2 exact rfl)) | (apply aw_condF; (iterate 2 exact rfl))
      | (apply es_case; exact rfl; all_goals intro hb; all_goals (try simp only [hb]); all_goals (first | replace hb := of_decide_eq_true hb | replace hb := of_decide_eq_false hb | replace hb := bne_t hb | replace hb := bne_f hb | skip); all_goals (try (exfalso; omega)))
      | (apply aw_cond; exact rfl; all_goals intro hb; all_goals (try simp only [hb]); all_goals (first | replace hb := of_decide_eq_true hb | replace hb := of_decide_eq_false hb | replace hb := bne_t hb | replace hb := bne_f hb | skip); all_goals (try (exfalso; omega))))
    apply ret1; exact rfl
    refine ⟨[], _, List.Perm.refl _, A', c', by rw [Nat.zero_add], ?_⟩
    show Chunk.own A' (0 + n) c' 25 10 ([] ++ cs) :: h = _
    simp

end Go.Proofs.Ytjcnaeengplcbaa

set_option linter.unusedSimpArgs false
set_option linter.unusedVariables false
namespace Go.Proofs.Ytjcnaeengplcbaa
open Go Go.Sl
attribute [local irreducible] AW ES Ld RetQ
set_option maxRecDepth 100000

theorem indexFuncAskR (W : World) (h : List Chunk) (A : Option Addr) (n c : Nat) (l : List AskR) (hn : l.length = n) (hr : Reads W h A n 10 (l.flatMap AskR.enc)) (fn : FuncId) (cap : List Value) (p : AskR → Bool)
    (hf : ∀ x ∈ l, QSpec Try.prog W fn ([.agg x.enc.toArray] ++ cap) h (.bool (p x))) (hb : n ≤ 4611686018427387903) :
    QSpec Try.prog W 67 [.slice A n c, .func (.func fn) #[] cap.toArray] h (.int .i64 (idxOf p l)) := by
  refine QSpec.of (fun h' hs => ?_)
  have hr' := hr.mono hs
  refine spec_body Try.func67 rfl rfl Try.results67 Try.ntmps67 rfl rfl ?_
  refine aw_reads hr' rfl (fun hA => ?_)
  repeat' (first
    | apply aw_seq | apply aw_region | apply aw_ret | apply aw_skip | apply aw_exit | apply aw_block | apply es_nil
    | (apply es_pure hT; (iterate 4 exact rfl)) | (apply es_skip; (iterate 3 exact rfl)) | (apply es_skip0; (iterate 2 exact rfl))
    | (apply es_i64 hT; (iterate 4 exact rfl); (iterate 2 (first | omega | (dsimp only; omega))))
    | (apply aw_draw [] [] hmix; decide +kernel)
    | (apply es_load; (iterate 5 exact rfl); first | (apply ld_blk hT; exact rfl; exact rfl; (repeat (first | exact List.mem_cons_self | apply List.mem_cons_of_mem | apply List.mem_append_right)); exact rfl; exact rfl) | (apply ld_all hT; exact rfl; exact rfl; (repeat (first | exact List.mem_cons_self | apply List.mem_cons_of_mem | apply List.mem_append_right)); exact rfl))
    | (apply es_box; (iterate 5 exact rfl); intro _) | (apply es_alloc hT; (iterate 5 exact rfl); intro _)
    | (apply aw_condT; (iterate 2 exact rfl)) | (apply aw_condF; (iterate 2 exact rfl))
    | (apply es_case; exact rfl; all_goals intro hb; all_goals (fail_if_success (change true = true at hb)); all_goals (fail_if_success (change false = false at hb)); all_goals (try dsimp only at hb); all_goals (try simp only [hb]); all_goals (first | replace hb := of_decide_eq_true hb | replace hb := of_decide_eq_false hb | replace hb := bne_t hb | replace hb := bne_f hb | replace hb := eq_of_beq hb | replace hb := ne_of_beq_false hb | skip); all_goals (try (exfalso; omega)))
    | (apply aw_cond; exact rfl; all_goals intro hb; all_goals (try dsimp only at hb); all_goals (try simp only [hb]); all_goals (first | replace hb := of_decide_eq_true hb | replace hb := of_decide_eq_false hb | replace hb := bne_t hb | replace hb := bne_f hb | replace hb := eq_of_beq hb | replace hb := ne_of_beq_false hb | skip); all_goals (try (exfalso; omega))))
  refine aw_loop (α := Nat) (E := fun k => [(0, .slice A n c), (1, .func (.func fn) #[] cap.toArray), (7, .int .i64 n), (8, .int .i64 k)]) (H := fun _ => h') (μ := fun k => n - k)
    (S := fun k => k ≤ n ∧ ∀ (j : Nat) y, j < k → l[j]? = some y → p y = false) 0 (J := []) ⟨Nat.zero_le _, fun j y hj => by omega⟩ ⟨rfl, rfl, rfl, rfl, trivial⟩ (List.Perm.refl _) ?_
  rintro k ⟨hk1, hk2⟩
  by_cases hlt : k < n
  · obtain ⟨x, hx⟩ : ∃ x, l[k]? = some x := ⟨l[k]'(by omega), List.getElem?_eq_getElem (by omega)⟩
    have hx2 : l[(k : Int).toNat]? = some x := by simpa using hx
    have hfx := (hf x (List.mem_of_getElem? hx)).mono hs
    have hA' := hA (by omega)
    repeat' (first
      | apply aw_seq | apply aw_region | apply aw_ret | apply aw_skip | apply aw_exit | apply aw_block | apply es_nil
      | (apply es_pure hT; (iterate 4 exact rfl)) | (apply es_skip; (iterate 3 exact rfl)) | (apply es_skip0; (iterate 2 exact rfl))
      | (apply es_i64 hT; (iterate 4 exact rfl); (iterate 2 (first | omega | (dsimp only; omega))))
      | (apply aw_draw [] [] hmix; decide +kernel)
      | (apply es_idx hT; (iterate 8 exact rfl); (iterate 2 omega); exact hA')
      | (apply es_load; (iterate 5 exact rfl); exact ld_elem hT rfl rfl hr' AskR.enc_len rfl hx2 rfl)
      | (apply es_callQ (hs := hfx); (iterate 7 exact rfl))
      | (apply es_load; (iterate 5 exact rfl); first | (apply ld_blk hT; exact rfl; exact rfl; (repeat (first | exact List.mem_cons_self | apply List.mem_cons_of_mem | apply List.mem_append_right)); exact rfl; exact rfl) | (apply ld_all hT; exact rfl; exact rfl; (repeat (first | exact List.mem_cons_self | apply List.mem_cons_of_mem | apply List.mem_append_right)); exact rfl))
      | (apply es_box; (iterate 5 exact rfl); intro _) | (apply es_alloc hT; (iterate 5 exact rfl); intro _)
      | (apply aw_condT; (iterate 2 exact rfl)) | (apply aw_condF; (iterate 2 exact rfl))
      | (apply es_case; exact rfl; all_goals intro hb; all_goals (fail_if_success (change true = true at hb)); all_goals (fail_if_success (change false = false at hb)); all_goals (try dsimp only at hb); all_goals (try simp only [hb]); all_goals (first | replace hb := of_decide_eq_true hb | replace hb := of_decide_eq_false hb | replace hb := bne_t hb | replace hb := bne_f hb | replace hb := eq_of_beq hb | replace hb := ne_of_beq_false hb | skip); all_goals (try (exfalso; omega)))
      | (apply aw_cond; exact rfl; all_goals intro hb; all_goals (try dsimp only at hb); all_goals (try simp only [hb]); all_goals (first | replace hb := of_decide_eq_true hb | replace hb := of_decide_eq_false hb | replace hb := bne_t hb | replace hb := bne_f hb | replace hb := eq_of_beq hb | replace hb := ne_of_beq_false hb | skip); all_goals (try (exfalso; omega))))
    · exact retQ1 (J := []) rfl (by rw [idxOf_at hx hb hk2]) (List.Perm.refl _)
    · have hpx := hb
      refine ⟨k + 1, [], by dsimp only; omega, ⟨by omega, fun j y hj hy => ?_⟩, ⟨rfl, rfl, rfl, rfl, trivial⟩, List.Perm.refl _⟩
      by_cases hjk : j < k
      · exact hk2 j y hjk hy
      · obtain rfl : j = k := by omega
        rw [hx] at hy; cases hy; exact hpx
  · repeat' (first
      | apply aw_seq | apply aw_region | apply aw_ret | apply aw_skip | apply aw_exit | apply aw_block | apply es_nil
      | (apply es_pure hT; (iterate 4 exact rfl)) | (apply es_skip; (iterate 3 exact rfl)) | (apply es_skip0; (iterate 2 exact rfl))
      | (apply es_i64 hT; (iterate 4 exact rfl); (iterate 2 (first | omega | (dsimp only; omega))))
      | (apply aw_draw [] [] hmix; decide +kernel)
      | (apply es_load; (iterate 5 exact rfl); first | (apply ld_blk hT; exact rfl; exact rfl; (repeat (first | exact List.mem_cons_self | apply List.mem_cons_of_mem | apply List.mem_append_right)); exact rfl; exact rfl) | (apply ld_all hT; exact rfl; exact rfl; (repeat (first | exact List.mem_cons_self | apply List.mem_cons_of_mem | apply List.mem_append_right)); exact rfl))
      | (apply es_box; (iterate 5 exact rfl); intro _) | (apply es_alloc hT; (iterate 5 exact rfl); intro _)
      | (apply aw_condT; (iterate 2 exact rfl)) | (apply aw_condF; (iterate 2 exact rfl))
      | (apply es_case; exact rfl; all_goals intro hb; all_goals (fail_if_success (change true = true at hb)); all_goals (fail_if_success (change false = false at hb)); all_goals (try dsimp only at hb); all_goals (try simp only [hb]); all_goals (first | replace hb := of_decide_eq_true hb | replace hb := of_decide_eq_false hb | replace hb := bne_t hb | replace hb := bne_f hb | replace hb := eq_of_beq hb | replace hb := ne_of_beq_false hb | skip); all_goals (try (exfalso; omega)))
      | (apply aw_cond; exact rfl; all_goals intro hb; all_goals (try dsimp only at hb); all_goals (try simp only [hb]); all_goals (first | replace hb := of_decide_eq_true hb | replace hb := of_decide_eq_false hb | replace hb := bne_t hb | replace hb := bne_f hb | replace hb := eq_of_beq hb | replace hb := ne_of_beq_false hb | skip); all_goals (try (exfalso; omega))))
    exact retQ1 (J := []) rfl (by rw [idxOf_none (fun (j : Nat) y hj => hk2 j y (by have := (List.getElem?_eq_some_iff.1 hj).1; omega) hj)]) (List.Perm.refl _)

theorem containsFuncAskR (W : World) (h : List Chunk) (A : Option Addr) (n c : Nat) (l : List AskR) (hn : l.length = n) (hr : Reads W h A n 10 (l.flatMap AskR.enc)) (fn : FuncId) (cap : List Value) (p : AskR → Bool)
    (hf : ∀ x ∈ l, QSpec Try.prog W fn ([.agg x.enc.toArray] ++ cap) h (.bool (p x))) (hb : n ≤ 4611686018427387903) :
    QSpec Try.prog W 52 [.slice A n c, .func (.func fn) #[] cap.toArray] h (.bool (decide (idxOf p l ≥ 0))) := by
  refine QSpec.of (fun h' hs => ?_)
  refine spec_body Try.func52 rfl rfl Try.results52 Try.ntmps52 rfl rfl ?_
  repeat' (first
    | apply aw_seq | apply aw_region | apply aw_ret | apply aw_skip | apply aw_exit | apply aw_block | apply es_nil
    | (apply es_pure hT; (iterate 4 exact rfl)) | (apply es_skip; (iterate 3 exact rfl)) | (apply es_skip0; (iterate 2 exact rfl))
    | (apply es_i64 hT; (iterate 4 exact rfl); (iterate 2 (first | omega | (dsimp only; omega))))
    | (apply aw_draw [] [] hmix; decide +kernel)
    | (apply es_callQ (hs := ((indexFuncAskR W h A n c l hn hr fn cap p hf hb).mono hs)); (iterate 7 exact rfl))
    | (apply es_load; (iterate 5 exact rfl); first | (apply ld_blk hT; exact rfl; exact rfl; (repeat (first | exact List.mem_cons_self | apply List.mem_cons_of_mem | apply List.mem_append_right)); exact rfl; exact rfl) | (apply ld_all hT; exact rfl; exact rfl; (repeat (first | exact List.mem_cons_self | apply List.mem_cons_of_mem | apply List.mem_append_right)); exact rfl))
    | (apply es_box; (iterate 5 exact rfl); intro _) | (apply es_alloc hT; (iterate 5 exact rfl); intro _)
    | (apply aw_condT; (iterate 2 exact rfl)) | (apply aw_condF; (iterate 2 exact rfl))
    | (apply es_case; exact rfl; all_goals intro hb; all_goals (fail_if_success (change true = true at hb)); all_goals (fail_if_success (change false = false at hb)); all_goals (try dsimp only at hb); all_goals (try simp only [hb]); all_goals (first | replace hb := of_decide_eq_true hb | replace hb := of_decide_eq_false hb | replace hb := bne_t hb | replace hb := bne_f hb | replace hb := eq_of_beq hb | replace hb := ne_of_beq_false hb | skip); all_goals (try (exfalso; omega)))
    | (apply aw_cond; exact rfl; all_goals intro hb; all_goals (try dsimp only at hb); all_goals (try simp only [hb]); all_goals (first | replace hb := of_decide_eq_true hb | replace hb := of_decide_eq_false hb | replace hb := bne_t hb | replace hb := bne_f hb | replace hb := eq_of_beq hb | replace hb := ne_of_beq_false hb | skip); all_goals (try (exfalso; omega))))
  exact retQ1 (J := []) rfl rfl (List.Perm.refl _)

end Go.Proofs.Ytjcnaeengplcbaa

set_option linter.unusedSimpArgs false
set_option linter.unusedVariables false
namespace Go.Proofs.Ytjcnaeengplcbaa
open Go Go.Sl
attribute [local irreducible] AW ES EP Ld RetQ
set_option maxRecDepth 100000

theorem desk_Now (W : World) (x : DAd) (s : Dk) : QSpec Try.prog W 25 [ptrV x.d] [.blk x.d 82 (deskCs x s)] (.int .i64 s.now) := by
  refine QSpec.ofD (fun h' hs => ?_)
  have m0 := hs _ mem0
  refine spec_body Try.func25 rfl rfl Try.results25 Try.ntmps25 rfl rfl ?_
  repeat' (first
    | apply aw_seq | apply aw_region | apply aw_ret | apply aw_skip | apply aw_exit | apply aw_block | apply es_nil
    | (apply es_pure hT; (iterate 4 exact rfl)) | (apply es_skip; (iterate 3 exact rfl)) | (apply es_skip0; (iterate 2 exact rfl))
    | (apply es_i64 hT; (iterate 4 exact rfl); (iterate 2 (first | omega | (dsimp only; omega))))
    | (apply aw_draw [] [] hmix; decide +kernel)
    | (apply es_load; (iterate 5 exact rfl); first | (apply ld_blk hT; exact rfl; exact rfl; (repeat (first | exact List.mem_cons_self | exact m0 | apply List.mem_cons_of_mem | apply List.mem_append_right)); exact rfl; exact rfl) | (apply ld_all hT; exact rfl; exact rfl; (repeat (first | exact List.mem_cons_self | exact m0 | apply List.mem_cons_of_mem | apply List.mem_append_right)); exact rfl))
    | (apply es_box; (iterate 5 exact rfl); intro _) | (apply es_alloc hT; (iterate 5 exact rfl); intro _)
    | (apply aw_condT; (iterate 2 exact rfl)) | (apply aw_condF; (iterate 2 exact rfl))
    | (apply es_case; exact rfl; all_goals intro hb; all_goals (fail_if_success (change true = true at hb)); all_goals (fail_if_success (change false = false at hb)); all_goals (try dsimp only at hb); all_goals (try simp only [hb]); all_goals (first | replace hb := of_decide_eq_true hb | replace hb := of_decide_eq_false hb | replace hb := bne_t hb | replace hb := bne_f hb | replace hb := eq_of_beq hb | replace hb := ne_of_beq_false hb | skip); all_goals (try (exfalso; omega)))
    | (apply aw_cond; exact rfl; all_goals intro hb; all_goals (try dsimp only at hb); all_goals (try simp only [hb]); all_goals (first | replace hb := of_decide_eq_true hb | replace hb := of_decide_eq_false hb | replace hb := bne_t hb | replace hb := bne_f hb | replace hb := eq_of_beq hb | replace hb := ne_of_beq_false hb | skip); all_goals (try (exfalso; omega))))
  all_goals first
    | (apply ret1; exact rfl; exact ⟨rfl, by (repeat (first | exact dt_end | (apply dt_cons; · (repeat (first | exact sel0 | apply selS | apply selApp))) | apply dt_skip | apply dt_both))⟩)
    | skip
theorem desk_Pos (W : World) (x : DAd) (s : Dk) : QSpec Try.prog W 22 [ptrV x.d] [.blk x.d 82 (deskCs x s)] (ptrV x.p) := by
  refine QSpec.ofD (fun h' hs => ?_)
  have m0 := hs _ mem0
  refine spec_body Try.func22 rfl rfl Try.results22 Try.ntmps22 rfl rfl ?_
  repeat' (first
    | apply aw_seq | apply aw_region | apply aw_ret | apply aw_skip | apply aw_exit | apply aw_block | apply es_nil
    | (apply es_pure hT; (iterate 4 exact rfl)) | (apply es_skip; (iterate 3 exact rfl)) | (apply es_skip0; (iterate 2 exact rfl))
    | (apply es_i64 hT; (iterate 4 exact rfl); (iterate 2 (first | omega | (dsimp only; omega))))
    | (apply aw_draw [] [] hmix; decide +kernel)
    | (apply es_load; (iterate 5 exact rfl); first | (apply ld_blk hT; exact rfl; exact rfl; (repeat (first | exact List.mem_cons_self | exact m0 | apply List.mem_cons_of_mem | apply List.mem_append_right)); exact rfl; exact rfl) | (apply ld_all hT; exact rfl; exact rfl; (repeat (first | exact List.mem_cons_self | exact m0 | apply List.mem_cons_of_mem | apply List.mem_append_right)); exact rfl))
    | (apply es_box; (iterate 5 exact rfl); intro _) | (apply es_alloc hT; (iterate 5 exact rfl); intro _)
    | (apply aw_condT; (iterate 2 exact rfl)) | (apply aw_condF; (iterate 2 exact rfl))
    | (apply es_case; exact rfl; all_goals intro hb; all_goals (fail_if_success (change true = true at hb)); all_goals (fail_if_success (change false = false at hb)); all_goals (try dsimp only at hb); all_goals (try simp only [hb]); all_goals (first | replace hb := of_decide_eq_true hb | replace hb := of_decide_eq_false hb | replace hb := bne_t hb | replace hb := bne_f hb | replace hb := eq_of_beq hb | replace hb := ne_of_beq_false hb | skip); all_goals (try (exfalso; omega)))
    | (apply aw_cond; exact rfl; all_goals intro hb; all_goals (try dsimp only at hb); all_goals (try simp only [hb]); all_goals (first | replace hb := of_decide_eq_true hb | replace hb := of_decide_eq_false hb | replace hb := bne_t hb | replace hb := bne_f hb | replace hb := eq_of_beq hb | replace hb := ne_of_beq_false hb | skip); all_goals (try (exfalso; omega))))
  all_goals first
    | (apply ret1; exact rfl; exact ⟨rfl, by (repeat (first | exact dt_end | (apply dt_cons; · (repeat (first | exact sel0 | apply selS | apply selApp))) | apply dt_skip | apply dt_both))⟩)
    | skip
theorem blot_Head (W : World) (p : Nat) (sl : Value) (head : Int) : QSpec Try.prog W 48 [ptrV p] [.blk p 123 [sl, .int .u64 head]] (.int .u64 head) := by
  refine QSpec.ofD (fun h' hs => ?_)
  have m0 := hs _ mem0
  refine spec_body Try.func48 rfl rfl Try.results48 Try.ntmps48 rfl rfl ?_
  repeat' (first
    | apply aw_seq | apply aw_region | apply aw_ret | apply aw_skip | apply aw_exit | apply aw_block | apply es_nil
    | (apply es_pure hT; (iterate 4 exact rfl)) | (apply es_skip; (iterate 3 exact rfl)) | (apply es_skip0; (iterate 2 exact rfl))
    | (apply es_i64 hT; (iterate 4 exact rfl); (iterate 2 (first | omega | (dsimp only; omega))))
    | (apply aw_draw [] [] hmix; decide +kernel)
    | (apply es_load; (iterate 5 exact rfl); first | (apply ld_blk hT; exact rfl; exact rfl; (repeat (first | exact List.mem_cons_self | exact m0 | apply List.mem_cons_of_mem | apply List.mem_append_right)); exact rfl; exact rfl) | (apply ld_all hT; exact rfl; exact rfl; (repeat (first | exact List.mem_cons_self | exact m0 | apply List.mem_cons_of_mem | apply List.mem_append_right)); exact rfl))
    | (apply es_box; (iterate 5 exact rfl); intro _) | (apply es_alloc hT; (iterate 5 exact rfl); intro _)
    | (apply aw_condT; (iterate 2 exact rfl)) | (apply aw_condF; (iterate 2 exact rfl))
    | (apply es_case; exact rfl; all_goals intro hb; all_goals (fail_if_success (change true = true at hb)); all_goals (fail_if_success (change false = false at hb)); all_goals (try dsimp only at hb); all_goals (try simp only [hb]); all_goals (first | replace hb := of_decide_eq_true hb | replace hb := of_decide_eq_false hb | replace hb := bne_t hb | replace hb := bne_f hb | replace hb := eq_of_beq hb | replace hb := ne_of_beq_false hb | skip); all_goals (try (exfalso; omega)))
    | (apply aw_cond; exact rfl; all_goals intro hb; all_goals (try dsimp only at hb); all_goals (try simp only [hb]); all_goals (first | replace hb := of_decide_eq_true hb | replace hb := of_decide_eq_false hb | replace hb := bne_t hb | replace hb := bne_f hb | replace hb := eq_of_beq hb | replace hb := ne_of_beq_false hb | skip); all_goals (try (exfalso; omega))))
  all_goals first
    | (apply ret1; exact rfl; exact ⟨rfl, by (repeat (first | exact dt_end | (apply dt_cons; · (repeat (first | exact sel0 | apply selS | apply selApp))) | apply dt_skip | apply dt_both))⟩)
    | skip
theorem desk_Head (W : World) (x : DAd) (s : Dk) (sl : Value) : QSpec Try.prog W 20 [ptrV x.d] [.blk x.d 82 (deskCs x s), .blk x.b 123 [sl, .int .u64 s.head]] (.int .u64 s.head) := by
  refine QSpec.ofD (fun h' hs => ?_)
  have m0 := hs _ mem0
  have m1 := hs _ mem1
  refine spec_body Try.func20 rfl rfl Try.results20 Try.ntmps20 rfl rfl ?_
  repeat' (first
    | apply aw_seq | apply aw_region | apply aw_ret | apply aw_skip | apply aw_exit | apply aw_block | apply es_nil
    | (apply es_pure hT; (iterate 4 exact rfl)) | (apply es_skip; (iterate 3 exact rfl)) | (apply es_skip0; (iterate 2 exact rfl))
    | (apply es_i64 hT; (iterate 4 exact rfl); (iterate 2 (first | omega | (dsimp only; omega))))
    | (apply aw_draw [] [] hmix; decide +kernel)
    | (apply es_callQ (hs := ((blot_Head W x.b sl s.head).mono (by intro c hc; rw [List.mem_singleton.1 hc]; exact m1))); (iterate 7 exact rfl))
    | (apply es_load; (iterate 5 exact rfl); first | (apply ld_blk hT; exact rfl; exact rfl; (repeat (first | exact List.mem_cons_self | exact m0 | apply List.mem_cons_of_mem | apply List.mem_append_right)); exact rfl; exact rfl) | (apply ld_all hT; exact rfl; exact rfl; (repeat (first | exact List.mem_cons_self | exact m0 | apply List.mem_cons_of_mem | apply List.mem_append_right)); exact rfl))
    | (apply es_box; (iterate 5 exact rfl); intro _) | (apply es_alloc hT; (iterate 5 exact rfl); intro _)
    | (apply aw_condT; (iterate 2 exact rfl)) | (apply aw_condF; (iterate 2 exact rfl))
    | (apply es_case; exact rfl; all_goals intro hb; all_goals (fail_if_success (change true = true at hb)); all_goals (fail_if_success (change false = false at hb)); all_goals (try dsimp only at hb); all_goals (try simp only [hb]); all_goals (first | replace hb := of_decide_eq_true hb | replace hb := of_decide_eq_false hb | replace hb := bne_t hb | replace hb := bne_f hb | replace hb := eq_of_beq hb | replace hb := ne_of_beq_false hb | skip); all_goals (try (exfalso; omega)))
    | (apply aw_cond; exact rfl; all_goals intro hb; all_goals (try dsimp only at hb); all_goals (try simp only [hb]); all_goals (first | replace hb := of_decide_eq_true hb | replace hb := of_decide_eq_false hb | replace hb := bne_t hb | replace hb := bne_f hb | replace hb := eq_of_beq hb | replace hb := ne_of_beq_false hb | skip); all_goals (try (exfalso; omega))))
  all_goals first
    | (apply ret1; exact rfl; exact ⟨rfl, by (repeat (first | exact dt_end | (apply dt_cons; · (repeat (first | exact sel0 | apply selS | apply selApp))) | apply dt_skip | apply dt_both))⟩)
    | skip
theorem desk_isBond (W : World) (x : DAd) (s : Dk) (n : Int) : QSpec Try.prog W 44 [ptrV x.d, .int .i64 n] [.blk x.d 82 (deskCs x s)] (.bool (decide (n ≥ 0) && decide (n < s.books.length))) := by
  refine QSpec.ofD (fun h' hs => ?_)
  have m0 := hs _ mem0
  refine spec_body Try.func44 rfl rfl Try.results44 Try.ntmps44 rfl rfl ?_
  repeat' (first
    | apply aw_seq | apply aw_region | apply aw_ret | apply aw_skip | apply aw_exit | apply aw_block | apply es_nil
    | (apply es_pure hT; (iterate 4 exact rfl)) | (apply es_skip; (iterate 3 exact rfl)) | (apply es_skip0; (iterate 2 exact rfl))
    | (apply es_i64 hT; (iterate 4 exact rfl); (iterate 2 (first | omega | (dsimp only; omega))))
    | (apply aw_draw [] [] hmix; decide +kernel)
    | (apply es_load; (iterate 5 exact rfl); first | (apply ld_blk hT; exact rfl; exact rfl; (repeat (first | exact List.mem_cons_self | exact m0 | apply List.mem_cons_of_mem | apply List.mem_append_right)); exact rfl; exact rfl) | (apply ld_all hT; exact rfl; exact rfl; (repeat (first | exact List.mem_cons_self | exact m0 | apply List.mem_cons_of_mem | apply List.mem_append_right)); exact rfl))
    | (apply es_box; (iterate 5 exact rfl); intro _) | (apply es_alloc hT; (iterate 5 exact rfl); intro _)
    | (apply aw_condT; (iterate 2 exact rfl)) | (apply aw_condF; (iterate 2 exact rfl))
    | (apply es_case; exact rfl; all_goals intro hb; all_goals (fail_if_success (change true = true at hb)); all_goals (fail_if_success (change false = false at hb)); all_goals (try dsimp only at hb); all_goals (try simp only [hb]); all_goals (first | replace hb := of_decide_eq_true hb | replace hb := of_decide_eq_false hb | replace hb := bne_t hb | replace hb := bne_f hb | replace hb := eq_of_beq hb | replace hb := ne_of_beq_false hb | skip); all_goals (try (exfalso; omega)))
    | (apply aw_cond; exact rfl; all_goals intro hb; all_goals (try dsimp only at hb); all_goals (try simp only [hb]); all_goals (first | replace hb := of_decide_eq_true hb | replace hb := of_decide_eq_false hb | replace hb := bne_t hb | replace hb := bne_f hb | replace hb := eq_of_beq hb | replace hb := ne_of_beq_false hb | skip); all_goals (try (exfalso; omega))))
  all_goals first
    | (apply ret1; exact rfl; exact ⟨by (first | (simp_all; done) | (simp; omega)), by (repeat (first | exact dt_end | (apply dt_cons; · (repeat (first | exact sel0 | apply selS | apply selApp))) | apply dt_skip | apply dt_both))⟩)
    | skip
theorem desk_Book (W : World) (x : DAd) (s : Dk) (bks : List BAd) (i : Nat) (b : BAd) (hl : bks.length = s.books.length) (hi : bks[i]? = some b) (h4 : bks.length ≤ 1000000) :
    QSpec Try.prog W 17 [ptrV x.d, .int .i64 i] [.blk x.d 82 (deskCs x s), x.books.own s.books.length 50 1 (bks.map BAd.ptr)] (ptrV b.p) := by
  refine QSpec.ofD (fun h' hs => ?_)
  have m0 := hs _ mem0
  have m1 := hs _ mem1
  have hil := (List.getElem?_eq_some_iff.1 hi).1
  have hB := (desk_isBond W x s i).cast (u := .bool true) (by simp; omega)
  have hrd : Reads W h' x.books.A s.books.length 1 (bks.map BAd.ptr) := Reads.own m1 (by simp [hl]) (fun v hv => by
    obtain ⟨y, _, rfl⟩ := List.mem_map.1 hv
    rfl)
  have hix : (bks.map BAd.ptr)[(i : Int).toNat * 1]? = some (ptrV b.p) := by simp [hi]; rfl
  refine spec_body Try.func17 rfl rfl Try.results17 Try.ntmps17 rfl rfl ?_
  refine aw_reads hrd rfl (fun hA => ?_)
  have hA' := hA (by omega)
  repeat' (first
    | apply aw_seq | apply aw_region | apply aw_ret | apply aw_skip | apply aw_exit | apply aw_block | apply es_nil
    | (apply es_pure hT; (iterate 4 exact rfl)) | (apply es_skip; (iterate 3 exact rfl)) | (apply es_skip0; (iterate 2 exact rfl))
    | (apply es_i64 hT; (iterate 4 exact rfl); (iterate 2 (first | omega | (dsimp only; omega))))
    | (apply aw_draw [] [] hmix; decide +kernel)
    | (apply es_callQ (hs := (hB.mono (by intro c hc; rw [List.mem_singleton.1 hc]; exact m0))); (iterate 7 exact rfl))
    | (apply es_idx hT; (iterate 8 exact rfl); (iterate 2 omega); exact hA')
    | (apply es_load; (iterate 5 exact rfl); exact ld_row hT rfl rfl hrd rfl hix)
    | (apply es_load; (iterate 5 exact rfl); first | (apply ld_blk hT; exact rfl; exact rfl; (repeat (first | exact List.mem_cons_self | exact m0 | apply List.mem_cons_of_mem | apply List.mem_append_right)); exact rfl; exact rfl) | (apply ld_all hT; exact rfl; exact rfl; (repeat (first | exact List.mem_cons_self | exact m0 | apply List.mem_cons_of_mem | apply List.mem_append_right)); exact rfl))
    | (apply es_box; (iterate 5 exact rfl); intro _) | (apply es_alloc hT; (iterate 5 exact rfl); intro _)
    | (apply aw_condT; (iterate 2 exact rfl)) | (apply aw_condF; (iterate 2 exact rfl))
    | (apply es_case; exact rfl; all_goals intro hb; all_goals (fail_if_success (change true = true at hb)); all_goals (fail_if_success (change false = false at hb)); all_goals (try dsimp only at hb); all_goals (try simp only [hb]); all_goals (first | replace hb := of_decide_eq_true hb | replace hb := of_decide_eq_false hb | replace hb := bne_t hb | replace hb := bne_f hb | replace hb := eq_of_beq hb | replace hb := ne_of_beq_false hb | skip); all_goals (try (exfalso; omega)))
    | (apply aw_cond; exact rfl; all_goals intro hb; all_goals (try dsimp only at hb); all_goals (try simp only [hb]); all_goals (first | replace hb := of_decide_eq_true hb | replace hb := of_decide_eq_false hb | replace hb := bne_t hb | replace hb := bne_f hb | replace hb := eq_of_beq hb | replace hb := ne_of_beq_false hb | skip); all_goals (try (exfalso; omega))))
  all_goals first
    | (apply ret1; exact rfl; exact ⟨rfl, by (repeat (first | exact dt_end | (apply dt_cons; · (repeat (first | exact sel0 | apply selS | apply selApp))) | apply dt_skip | apply dt_both))⟩)
    | skip
theorem blot_List (W : World) (h : List Chunk) (p : Nat) (A : Option Addr) (c : Nat) (l : List TradeR) (hv : Value) (m0 : Chunk.blk p 123 [.slice A l.length c, hv] ∈ h) (m1 : Chunk.own A l.length c 96 8 (l.flatMap TradeR.enc) ∈ h) (hb : l.length ≤ 1000000) :
    FSpec Try.prog W 45 [ptrV p] h (fun v h' => ∃ A' c', v = .slice A' l.length c' ∧ h' = .own A' l.length c' 96 8 (l.flatMap TradeR.enc) :: h) := by
  have hrd : Reads W h A l.length 8 (l.flatMap TradeR.enc) := Reads.own m1 (flat_len TradeR.enc_len _) (fun v hv => by
    obtain ⟨y, _, hy⟩ := List.mem_flatMap.1 hv
    exact TradeR.enc_one y v hy)
  refine FSpec.dropTo ?_
  refine spec_body Try.func45 rfl rfl Try.results45 Try.ntmps45 rfl rfl ?_
  repeat' (first
    | apply aw_seq | apply aw_region | apply aw_ret | apply aw_skip | apply aw_exit | apply aw_block | apply es_nil
    | (apply es_pure hT; (iterate 4 exact rfl)) | (apply es_skip; (iterate 3 exact rfl)) | (apply es_skip0; (iterate 2 exact rfl))
    | (apply es_i64 hT; (iterate 4 exact rfl); (iterate 2 (first | omega | (dsimp only; omega))))
    | (apply aw_draw [] [] hmix; decide +kernel)
    | (apply es_call (hs := (cloneTradeR W _ A l.length c (l.flatMap TradeR.enc) hrd (by omega))); (iterate 7 exact rfl); rintro _ _ ⟨A1, c1, rfl, rfl⟩)
    | (apply es_load; (iterate 5 exact rfl); first | (apply ld_blk hT; exact rfl; exact rfl; (repeat (first | exact List.mem_cons_self | exact m0 | apply List.mem_cons_of_mem | apply List.mem_append_right)); exact rfl; exact rfl) | (apply ld_all hT; exact rfl; exact rfl; (repeat (first | exact List.mem_cons_self | exact m0 | apply List.mem_cons_of_mem | apply List.mem_append_right)); exact rfl))
    | (apply es_box; (iterate 5 exact rfl); intro _) | (apply es_alloc hT; (iterate 5 exact rfl); intro _)
    | (apply aw_condT; (iterate 2 exact rfl)) | (apply aw_condF; (iterate 2 exact rfl))
    | (apply es_case; exact rfl; all_goals intro hb; all_goals (fail_if_success (change true = true at hb)); all_goals (fail_if_success (change false = false at hb)); all_goals (try dsimp only at hb); all_goals (try simp only [hb]); all_goals (first | replace hb := of_decide_eq_true hb | replace hb := of_decide_eq_false hb | replace hb := bne_t hb | replace hb := bne_f hb | replace hb := eq_of_beq hb | replace hb := ne_of_beq_false hb | skip); all_goals (try (exfalso; omega)))
    | (apply aw_cond; exact rfl; all_goals intro hb; all_goals (try dsimp only at hb); all_goals (try simp only [hb]); all_goals (first | replace hb := of_decide_eq_true hb | replace hb := of_decide_eq_false hb | replace hb := bne_t hb | replace hb := bne_f hb | replace hb := eq_of_beq hb | replace hb := ne_of_beq_false hb | skip); all_goals (try (exfalso; omega))))
  all_goals first
    | (apply ret1; exact rfl; exact ⟨_, dt_end, A1, c1, rfl, rfl⟩)
    | skip
theorem desk_Trades (W : World) (h : List Chunk) (x : DAd) (s : Dk) (m0 : Chunk.blk x.d 82 (deskCs x s) ∈ h) (m1 : Chunk.blk x.b 123 [x.trades.sl s.trades.length, .int .u64 s.head] ∈ h) (m2 : x.trades.own s.trades.length 96 8 (s.trades.flatMap TradeR.enc) ∈ h) (hb : s.trades.length ≤ 1000000) :
    FSpec Try.prog W 18 [ptrV x.d] h (fun v h' => ∃ A' c', v = .slice A' s.trades.length c' ∧ h' = .own A' s.trades.length c' 96 8 (s.trades.flatMap TradeR.enc) :: h) := by
  refine FSpec.dropTo ?_
  have hL := blot_List W h x.b x.trades.A x.trades.c s.trades (.int .u64 s.head) m1 m2 hb
  refine spec_body Try.func18 rfl rfl Try.results18 Try.ntmps18 rfl rfl ?_
  repeat' (first
    | apply aw_seq | apply aw_region | apply aw_ret | apply aw_skip | apply aw_exit | apply aw_block | apply es_nil
    | (apply es_pure hT; (iterate 4 exact rfl)) | (apply es_skip; (iterate 3 exact rfl)) | (apply es_skip0; (iterate 2 exact rfl))
    | (apply es_i64 hT; (iterate 4 exact rfl); (iterate 2 (first | omega | (dsimp only; omega))))
    | (apply aw_draw [] [] hmix; decide +kernel)
    | (apply es_call (hs := hL); (iterate 7 exact rfl); rintro _ _ ⟨A1, c1, rfl, rfl⟩)
    | (apply es_load; (iterate 5 exact rfl); first | (apply ld_blk hT; exact rfl; exact rfl; (repeat (first | exact List.mem_cons_self | exact m0 | apply List.mem_cons_of_mem | apply List.mem_append_right)); exact rfl; exact rfl) | (apply ld_all hT; exact rfl; exact rfl; (repeat (first | exact List.mem_cons_self | exact m0 | apply List.mem_cons_of_mem | apply List.mem_append_right)); exact rfl))
    | (apply es_box; (iterate 5 exact rfl); intro _) | (apply es_alloc hT; (iterate 5 exact rfl); intro _)
    | (apply aw_condT; (iterate 2 exact rfl)) | (apply aw_condF; (iterate 2 exact rfl))
    | (apply es_case; exact rfl; all_goals intro hb; all_goals (fail_if_success (change true = true at hb)); all_goals (fail_if_success (change false = false at hb)); all_goals (try dsimp only at hb); all_goals (try simp only [hb]); all_goals (first | replace hb := of_decide_eq_true hb | replace hb := of_decide_eq_false hb | replace hb := bne_t hb | replace hb := bne_f hb | replace hb := eq_of_beq hb | replace hb := ne_of_beq_false hb | skip); all_goals (try (exfalso; omega)))
    | (apply aw_cond; exact rfl; all_goals intro hb; all_goals (try dsimp only at hb); all_goals (try simp only [hb]); all_goals (first | replace hb := of_decide_eq_true hb | replace hb := of_decide_eq_false hb | replace hb := bne_t hb | replace hb := bne_f hb | replace hb := eq_of_beq hb | replace hb := ne_of_beq_false hb | skip); all_goals (try (exfalso; omega))))
  all_goals first
    | (apply ret1; exact rfl; exact ⟨_, dt_end, A1, c1, rfl, rfl⟩)
    | skip
theorem ask_AllT (W : World) (h : List Chunk) (p : Nat) (A : Option Addr) (c : Nat) (l : List AskR) (m0 : Chunk.blk p 115 [.slice A l.length c] ∈ h) (m1 : Chunk.own A l.length c 25 10 (l.flatMap AskR.enc) ∈ h) (hb : l.length ≤ 1000000) :
    FSpec Try.prog W 56 [ptrV p] h (fun v h' => ∃ A' c', v = .slice A' l.length c' ∧ h' = .own A' l.length c' 25 10 (l.flatMap AskR.enc) :: h) := by
  have hrd : Reads W h A l.length 10 (l.flatMap AskR.enc) := Reads.own m1 (flat_len AskR.enc_len _) (fun v hv => by
    obtain ⟨y, _, hy⟩ := List.mem_flatMap.1 hv
    exact AskR.enc_one y v hy)
  refine FSpec.dropTo ?_
  refine spec_body Try.func56 rfl rfl Try.results56 Try.ntmps56 rfl rfl ?_
  repeat' (first
    | apply aw_seq | apply aw_region | apply aw_ret | apply aw_skip | apply aw_exit | apply aw_block | apply es_nil
    | (apply es_pure hT; (iterate 4 exact rfl)) | (apply es_skip; (iterate 3 exact rfl)) | (apply es_skip0; (iterate 2 exact rfl))
    | (apply es_i64 hT; (iterate 4 exact rfl); (iterate 2 (first | omega | (dsimp only; omega))))
    | (apply aw_draw [] [] hmix; decide +kernel)
    | (apply es_call (hs := (cloneAskR W _ A l.length c (l.flatMap AskR.enc) hrd (by omega))); (iterate 7 exact rfl); rintro _ _ ⟨A1, c1, rfl, rfl⟩)
    | (apply es_load; (iterate 5 exact rfl); first | (apply ld_blk hT; exact rfl; exact rfl; (repeat (first | exact List.mem_cons_self | exact m0 | apply List.mem_cons_of_mem | apply List.mem_append_right)); exact rfl; exact rfl) | (apply ld_all hT; exact rfl; exact rfl; (repeat (first | exact List.mem_cons_self | exact m0 | apply List.mem_cons_of_mem | apply List.mem_append_right)); exact rfl))
    | (apply es_box; (iterate 5 exact rfl); intro _) | (apply es_alloc hT; (iterate 5 exact rfl); intro _)
    | (apply aw_condT; (iterate 2 exact rfl)) | (apply aw_condF; (iterate 2 exact rfl))
    | (apply es_case; exact rfl; all_goals intro hb; all_goals (fail_if_success (change true = true at hb)); all_goals (fail_if_success (change false = false at hb)); all_goals (try dsimp only at hb); all_goals (try simp only [hb]); all_goals (first | replace hb := of_decide_eq_true hb | replace hb := of_decide_eq_false hb | replace hb := bne_t hb | replace hb := bne_f hb | replace hb := eq_of_beq hb | replace hb := ne_of_beq_false hb | skip); all_goals (try (exfalso; omega)))
    | (apply aw_cond; exact rfl; all_goals intro hb; all_goals (try dsimp only at hb); all_goals (try simp only [hb]); all_goals (first | replace hb := of_decide_eq_true hb | replace hb := of_decide_eq_false hb | replace hb := bne_t hb | replace hb := bne_f hb | replace hb := eq_of_beq hb | replace hb := ne_of_beq_false hb | skip); all_goals (try (exfalso; omega))))
  all_goals first
    | (apply ret1; exact rfl; exact ⟨_, dt_end, A1, c1, rfl, rfl⟩)
    | skip
theorem desk_Asks (W : World) (h : List Chunk) (x : DAd) (s : Dk) (m0 : Chunk.blk x.d 82 (deskCs x s) ∈ h) (m1 : Chunk.blk x.a 115 [x.asks.sl s.asks.length] ∈ h) (m2 : x.asks.own s.asks.length 25 10 (s.asks.flatMap AskR.enc) ∈ h) (hb : s.asks.length ≤ 1000000) :
    FSpec Try.prog W 24 [ptrV x.d] h (fun v h' => ∃ A' c', v = .slice A' s.asks.length c' ∧ h' = .own A' s.asks.length c' 25 10 (s.asks.flatMap AskR.enc) :: h) := by
  refine FSpec.dropTo ?_
  have hL := ask_AllT W h x.a x.asks.A x.asks.c s.asks m1 m2 hb
  refine spec_body Try.func24 rfl rfl Try.results24 Try.ntmps24 rfl rfl ?_
  repeat' (first
    | apply aw_seq | apply aw_region | apply aw_ret | apply aw_skip | apply aw_exit | apply aw_block | apply es_nil
    | (apply es_pure hT; (iterate 4 exact rfl)) | (apply es_skip; (iterate 3 exact rfl)) | (apply es_skip0; (iterate 2 exact rfl))
    | (apply es_i64 hT; (iterate 4 exact rfl); (iterate 2 (first | omega | (dsimp only; omega))))
    | (apply aw_draw [] [] hmix; decide +kernel)
    | (apply es_call (hs := hL); (iterate 7 exact rfl); rintro _ _ ⟨A1, c1, rfl, rfl⟩)
    | (apply es_load; (iterate 5 exact rfl); first | (apply ld_blk hT; exact rfl; exact rfl; (repeat (first | exact List.mem_cons_self | exact m0 | apply List.mem_cons_of_mem | apply List.mem_append_right)); exact rfl; exact rfl) | (apply ld_all hT; exact rfl; exact rfl; (repeat (first | exact List.mem_cons_self | exact m0 | apply List.mem_cons_of_mem | apply List.mem_append_right)); exact rfl))
    | (apply es_box; (iterate 5 exact rfl); intro _) | (apply es_alloc hT; (iterate 5 exact rfl); intro _)
    | (apply aw_condT; (iterate 2 exact rfl)) | (apply aw_condF; (iterate 2 exact rfl))
    | (apply es_case; exact rfl; all_goals intro hb; all_goals (fail_if_success (change true = true at hb)); all_goals (fail_if_success (change false = false at hb)); all_goals (try dsimp only at hb); all_goals (try simp only [hb]); all_goals (first | replace hb := of_decide_eq_true hb | replace hb := of_decide_eq_false hb | replace hb := bne_t hb | replace hb := bne_f hb | replace hb := eq_of_beq hb | replace hb := ne_of_beq_false hb | skip); all_goals (try (exfalso; omega)))
    | (apply aw_cond; exact rfl; all_goals intro hb; all_goals (try dsimp only at hb); all_goals (try simp only [hb]); all_goals (first | replace hb := of_decide_eq_true hb | replace hb := of_decide_eq_false hb | replace hb := bne_t hb | replace hb := bne_f hb | replace hb := eq_of_beq hb | replace hb := ne_of_beq_false hb | skip); all_goals (try (exfalso; omega))))
  all_goals first
    | (apply ret1; exact rfl; exact ⟨_, dt_end, A1, c1, rfl, rfl⟩)
    | skip
end Go.Proofs.Ytjcnaeengplcbaa

set_option linter.unusedSimpArgs false
set_option linter.unusedVariables false
namespace Go.Proofs.Ytjcnaeengplcbaa
open Go Go.Sl

def at0 {α : Type} (l : List α) (i : Int) : Option α := if i < 0 then none else l[i.toNat]?
def inW (n : Int) : Prop := -9223372036854775808 ≤ n ∧ n ≤ 9223372036854775807
def inI (n : Int) : Bool := inB n (-9223372036854775808) 9223372036854775807
theorem inI_t {n : Int} (h : inI n = true) : -9223372036854775808 ≤ n ∧ n ≤ 9223372036854775807 := inB_t h
theorem inI_f {n : Int} (h : inI n = false) : n < -9223372036854775808 ∨ 9223372036854775807 < n := inB_f h
structure Ps where
  cash : List Int
  pos : List (List Int)
def posOf (p : Ps) (who bond : Int) : Int := ((at0 p.pos who).bind fun r => at0 r bond).getD 0
def cashOf (p : Ps) (who : Int) : Int := (at0 p.cash who).getD 0
def isPos (p : Ps) (who bond : Int) : Bool := decide (0 ≤ who) && (decide (who < p.cash.length) && (decide (0 ≤ bond) && decide (bond < ((at0 p.pos who).getD []).length)))
def putE (p : Ps) (t : TradeR) : Int :=
  if isPos p t.buyer t.bond = false ∨ isPos p t.seller t.bond = false ∨ t.buyer = t.seller ∨ t.price < 1 ∨ t.qty < 1 then 1
  else if inI (t.price * t.qty) && inI (posOf p t.buyer t.bond + t.qty) && inI (posOf p t.seller t.bond - t.qty) && inI (cashOf p t.buyer - t.price * t.qty) && inI (cashOf p t.seller + t.price * t.qty) then 0 else 15
def setRow (l : List (List Int)) (who bond n : Int) : List (List Int) := l.set who.toNat (((at0 l who).getD []).set bond.toNat n)
def putP (p : Ps) (t : TradeR) : Ps :=
  if putE p t = 0 then ⟨(p.cash.set t.buyer.toNat (cashOf p t.buyer - t.price * t.qty)).set t.seller.toNat (cashOf p t.seller + t.price * t.qty),
    setRow (setRow p.pos t.buyer t.bond (posOf p t.buyer t.bond + t.qty)) t.seller t.bond (posOf p t.seller t.bond - t.qty)⟩ else p
theorem set_perm {α : Type} : ∀ {l : List α} {i : Nat}, i < l.length → ∃ R, ∀ a, (l.set i a).Perm (a :: R)
  | [], i, h => absurd h (Nat.not_lt_zero _)
  | x :: l, 0, _ => ⟨l, fun a => List.Perm.refl _⟩
  | x :: l, i + 1, h => by
    obtain ⟨R, hR⟩ := set_perm (l := l) (i := i) (by simpa using h)
    exact ⟨x :: R, fun a => ((hR a).cons x).trans (List.Perm.swap _ _ _)⟩
theorem set2_perm {α : Type} : ∀ {l : List α} {i j : Nat}, i < l.length → j < l.length → i ≠ j → ∃ R, ∀ a b, ((l.set i a).set j b).Perm (a :: b :: R)
  | [], i, j, h, _, _ => absurd h (Nat.not_lt_zero _)
  | x :: l, 0, 0, _, _, h => absurd rfl h
  | x :: l, 0, j + 1, _, h, _ => by
    obtain ⟨R, hR⟩ := set_perm (l := l) (i := j) (by simpa using h)
    exact ⟨R, fun a b => (hR b).cons a⟩
  | x :: l, i + 1, 0, h, _, _ => by
    obtain ⟨R, hR⟩ := set_perm (l := l) (i := i) (by simpa using h)
    exact ⟨R, fun a b => ((hR a).cons b).trans (List.Perm.swap _ _ _)⟩
  | x :: l, i + 1, j + 1, h1, h2, h3 => by
    obtain ⟨R, hR⟩ := set2_perm (l := l) (i := i) (j := j) (by simpa using h1) (by simpa using h2) (by omega)
    exact ⟨x :: R, fun a b => ((hR a b).cons x).trans (((List.Perm.swap a x _).trans ((List.Perm.swap b x R).cons a)))⟩
theorem set_self {α : Type} {l : List α} {i : Nat} {a : α} (h : l[i]? = some a) : l.set i a = l := by
  obtain ⟨hi, rfl⟩ := List.getElem?_eq_some_iff.1 h
  exact List.set_getElem_self hi
end Go.Proofs.Ytjcnaeengplcbaa

set_option linter.unusedSimpArgs false
set_option linter.unusedVariables false
namespace Go.Proofs.Ytjcnaeengplcbaa
open Go Go.Sl
attribute [local irreducible] AW ES EP Ld RetQ
set_option maxRecDepth 100000

theorem fix_AddT (W : World) (a b : Int) (ha : inW a) (hb : inW b) (h : inW (a + b)) : QSpec Try.prog W 15 [.int .i64 a, .int .i64 b] [] (.tuple #[.int .i64 (a + b), .bool true]) := by
  unfold inW at *
  refine QSpec.ofD (fun h' hs => ?_)
  refine spec_body Try.func15 rfl rfl Try.results15 Try.ntmps15 rfl rfl ?_
  repeat' (first
    | apply aw_seq | apply aw_region | apply aw_ret | apply aw_skip | apply aw_exit | apply aw_block | apply es_nil
    | (apply es_pure hT; (iterate 4 exact rfl)) | (apply es_skip; (iterate 3 exact rfl)) | (apply es_skip0; (iterate 2 exact rfl))
    | (apply es_i64 hT; (iterate 4 exact rfl); (iterate 2 (first | omega | (dsimp only; omega))))
    | (apply aw_draw [] [] hmix; decide +kernel)
    | (apply es_load; (iterate 5 exact rfl); first | (apply ld_blk hT; exact rfl; exact rfl; (repeat (first | exact List.mem_cons_self | apply List.mem_cons_of_mem | apply List.mem_append_right)); exact rfl; exact rfl) | (apply ld_all hT; exact rfl; exact rfl; (repeat (first | exact List.mem_cons_self | apply List.mem_cons_of_mem | apply List.mem_append_right)); exact rfl))
    | (apply es_box; (iterate 5 exact rfl); intro _) | (apply es_alloc hT; (iterate 5 exact rfl); intro _)
    | (apply aw_condT; (iterate 2 exact rfl)) | (apply aw_condF; (iterate 2 exact rfl))
    | (apply es_case; exact rfl; all_goals intro hb; all_goals (fail_if_success (change true = true at hb)); all_goals (fail_if_success (change false = false at hb)); all_goals (try dsimp only at hb); all_goals (try simp only [hb]); all_goals (first | replace hb := of_decide_eq_true hb | replace hb := of_decide_eq_false hb | replace hb := bne_t hb | replace hb := bne_f hb | replace hb := eq_of_beq hb | replace hb := ne_of_beq_false hb | skip); all_goals (try (exfalso; omega)))
    | (apply aw_cond; exact rfl; all_goals intro hb; all_goals (try dsimp only at hb); all_goals (try simp only [hb]); all_goals (first | replace hb := of_decide_eq_true hb | replace hb := of_decide_eq_false hb | replace hb := bne_t hb | replace hb := bne_f hb | replace hb := eq_of_beq hb | replace hb := ne_of_beq_false hb | skip); all_goals (try (exfalso; omega))))
  all_goals first
    | (exfalso; omega)
    | (apply ret2; exact rfl; exact rfl; exact ⟨rfl, by (repeat (first | exact dt_end | (apply dt_cons; · (repeat (first | exact sel0 | apply selS | apply selApp))) | apply dt_skip | apply dt_both))⟩)
    | skip
theorem audit_past (W : World) (a b tick : Int) (ha : inW a) (hb : inW b) (h : inW (a + b)) : QSpec Try.prog W 10 [.int .i64 a, .int .i64 b, .int .i64 tick] [] (.bool (decide (a + b ≤ tick))) := by
  refine QSpec.ofD (fun h' hs => ?_)
  refine spec_body Try.func10 rfl rfl Try.results10 Try.ntmps10 rfl rfl ?_
  repeat' (first
    | apply aw_seq | apply aw_region | apply aw_ret | apply aw_skip | apply aw_exit | apply aw_block | apply es_nil
    | (apply es_pure hT; (iterate 4 exact rfl)) | (apply es_skip; (iterate 3 exact rfl)) | (apply es_skip0; (iterate 2 exact rfl))
    | (apply es_i64 hT; (iterate 4 exact rfl); (iterate 2 (first | omega | (dsimp only; omega))))
    | (apply aw_draw [] [] hmix; decide +kernel)
    | (apply es_callQ (hs := ((fix_AddT W a b ha hb h).mono (by simp))); (iterate 7 exact rfl))
    | (apply es_load; (iterate 5 exact rfl); first | (apply ld_blk hT; exact rfl; exact rfl; (repeat (first | exact List.mem_cons_self | apply List.mem_cons_of_mem | apply List.mem_append_right)); exact rfl; exact rfl) | (apply ld_all hT; exact rfl; exact rfl; (repeat (first | exact List.mem_cons_self | apply List.mem_cons_of_mem | apply List.mem_append_right)); exact rfl))
    | (apply es_box; (iterate 5 exact rfl); intro _) | (apply es_alloc hT; (iterate 5 exact rfl); intro _)
    | (apply aw_condT; (iterate 2 exact rfl)) | (apply aw_condF; (iterate 2 exact rfl))
    | (apply es_case; exact rfl; all_goals intro hb; all_goals (fail_if_success (change true = true at hb)); all_goals (fail_if_success (change false = false at hb)); all_goals (try dsimp only at hb); all_goals (try simp only [hb]); all_goals (first | replace hb := of_decide_eq_true hb | replace hb := of_decide_eq_false hb | replace hb := bne_t hb | replace hb := bne_f hb | replace hb := eq_of_beq hb | replace hb := ne_of_beq_false hb | skip); all_goals (try (exfalso; omega)))
    | (apply aw_cond; exact rfl; all_goals intro hb; all_goals (try dsimp only at hb); all_goals (try simp only [hb]); all_goals (first | replace hb := of_decide_eq_true hb | replace hb := of_decide_eq_false hb | replace hb := bne_t hb | replace hb := bne_f hb | replace hb := eq_of_beq hb | replace hb := ne_of_beq_false hb | skip); all_goals (try (exfalso; omega))))
  all_goals first
    | (exfalso; omega)
    | (apply ret1; exact rfl; exact ⟨rfl, by (repeat (first | exact dt_end | (apply dt_cons; · (repeat (first | exact sel0 | apply selS | apply selApp))) | apply dt_skip | apply dt_both))⟩)
    | skip
def endedA (tick look : Int) (a : AskR) : Bool := !(a.state != 3 && a.state != 4 && decide (a.ends + look ≤ tick))
def endedV (l : List AskR) (tick look : Int) : Bool := l.all (endedA tick look)
theorem all_bad {α : Type} {q : α → Bool} {l : List α} {x : α} (hx : x ∈ l) (h : q x = false) : l.all q = false := by
  rw [List.all_eq_false]
  exact ⟨x, hx, by rw [h]; decide⟩
theorem all_good {α : Type} {q : α → Bool} {l : List α} (h : ∀ (j : Nat) y, j < l.length → l[j]? = some y → q y = true) : l.all q = true := by
  rw [List.all_eq_true]
  intro x hx
  obtain ⟨i, hi⟩ := List.getElem?_of_mem hx
  exact h i x (List.getElem?_eq_some_iff.1 hi).1 hi
theorem audit_Ended (W : World) (h : List Chunk) (A : Option Addr) (c : Nat) (l : List AskR) (tick look : Int) (hr : Reads W h A l.length 10 (l.flatMap AskR.enc)) (hb : l.length ≤ 1000000) (hlk : inW look) (hok : ∀ a ∈ l, inW a.ends ∧ inW (a.ends + look)) :
    QSpec Try.prog W 5 [.slice A l.length c, .int .i64 tick, .int .i64 look] h (.bool (endedV l tick look)) := by
  refine QSpec.ofD (fun h' hs => ?_)
  have hrd := hr.mono hs
  refine spec_body Try.func5 rfl rfl Try.results5 Try.ntmps5 rfl rfl ?_
  refine aw_reads hrd rfl (fun hA => ?_)
  repeat' (first
    | apply aw_seq | apply aw_region | apply aw_ret | apply aw_skip | apply aw_exit | apply aw_block | apply es_nil
    | (apply es_pure hT; (iterate 4 exact rfl)) | (apply es_skip; (iterate 3 exact rfl)) | (apply es_skip0; (iterate 2 exact rfl))
    | (apply es_i64 hT; (iterate 4 exact rfl); (iterate 2 (first | omega | (dsimp only; omega))))
    | (apply aw_draw [] [] hmix; decide +kernel)
    | (apply es_load; (iterate 5 exact rfl); first | (apply ld_blk hT; exact rfl; exact rfl; (repeat (first | exact List.mem_cons_self | apply List.mem_cons_of_mem | apply List.mem_append_right)); exact rfl; exact rfl) | (apply ld_all hT; exact rfl; exact rfl; (repeat (first | exact List.mem_cons_self | apply List.mem_cons_of_mem | apply List.mem_append_right)); exact rfl))
    | (apply es_box; (iterate 5 exact rfl); intro _) | (apply es_alloc hT; (iterate 5 exact rfl); intro _)
    | (apply aw_condT; (iterate 2 exact rfl)) | (apply aw_condF; (iterate 2 exact rfl))
    | (apply es_case; exact rfl; all_goals intro hb; all_goals (fail_if_success (change true = true at hb)); all_goals (fail_if_success (change false = false at hb)); all_goals (try dsimp only at hb); all_goals (try simp only [hb]); all_goals (first | replace hb := of_decide_eq_true hb | replace hb := of_decide_eq_false hb | replace hb := bne_t hb | replace hb := bne_f hb | replace hb := eq_of_beq hb | replace hb := ne_of_beq_false hb | skip); all_goals (try (exfalso; omega)))
    | (apply aw_cond; exact rfl; all_goals intro hb; all_goals (try dsimp only at hb); all_goals (try simp only [hb]); all_goals (first | replace hb := of_decide_eq_true hb | replace hb := of_decide_eq_false hb | replace hb := bne_t hb | replace hb := bne_f hb | replace hb := eq_of_beq hb | replace hb := ne_of_beq_false hb | skip); all_goals (try (exfalso; omega))))
  refine aw_loopD (α := Nat) (E := fun k => [(1, .int .i64 tick), (2, .int .i64 look), (10, .slice A l.length c), (11, .int .i64 l.length), (12, .int .i64 k)]) (H := fun _ => h') (μ := fun k => l.length - k)
    (S := fun k => k ≤ l.length ∧ ∀ (j : Nat) y, j < k → l[j]? = some y → endedA tick look y = true) 0 ⟨Nat.zero_le _, fun j y hj => absurd hj (Nat.not_lt_zero _)⟩ ⟨rfl, rfl, rfl, rfl, rfl, trivial⟩ (by (repeat (first | exact dt_end | (apply dt_cons; · (repeat (first | exact sel0 | apply selS | apply selApp))) | apply dt_skip | apply dt_both))) ?_
  rintro k ⟨hk, hgd⟩
  by_cases hlt : k < l.length
  · obtain ⟨x, hx⟩ : ∃ x, l[k]? = some x := ⟨l[k]'(by omega), List.getElem?_eq_getElem (by omega)⟩
    have hx2 : l[(k : Int).toNat]? = some x := by simpa using hx
    have hA' := hA (by omega)
    have hd1 : decide ((k : Int) < (l.length : Int)) = true := by simp; omega
    have hxm := List.mem_of_getElem? hx
    obtain ⟨w1, w2⟩ := hok x hxm
    unfold inW at w1 w2
    cases he : endedA tick look x
    · repeat' (first
        | apply aw_seq | apply aw_region | apply aw_ret | apply aw_skip | apply aw_exit | apply aw_block | apply es_nil
        | (apply es_pure hT; (iterate 4 exact rfl)) | (apply es_skip; (iterate 3 exact rfl)) | (apply es_skip0; (iterate 2 exact rfl))
        | (apply es_i64 hT; (iterate 4 exact rfl); (iterate 2 (first | omega | (dsimp only; omega))))
        | (apply aw_draw [] [] hmix; decide +kernel)
        | (apply es_idx hT; (iterate 8 exact rfl); (iterate 2 omega); exact hA')
        | (apply es_load; (iterate 5 exact rfl); exact ld_elem hT rfl rfl (hrd.mono (by (intro c hc; (repeat (first | exact hc | apply List.mem_cons_of_mem | apply List.mem_append_right))))) AskR.enc_len rfl hx2 rfl)
        | (apply es_store hT; (iterate 6 exact rfl); (repeat (first | exact sel0 | apply selS | apply selApp)); (iterate 3 exact rfl); exact Nat.le_of_ble_eq_true rfl)
        | (apply es_callQ (hs := ((audit_past W x.ends look tick (by unfold inW; omega) hlk (by unfold inW; omega)).mono (by simp))); (iterate 7 exact rfl))
        | (apply es_load; (iterate 5 exact rfl); first | (apply ld_blk hT; exact rfl; exact rfl; (repeat (first | exact List.mem_cons_self | apply List.mem_cons_of_mem | apply List.mem_append_right)); exact rfl; exact rfl) | (apply ld_all hT; exact rfl; exact rfl; (repeat (first | exact List.mem_cons_self | apply List.mem_cons_of_mem | apply List.mem_append_right)); exact rfl))
        | (apply es_box; (iterate 5 exact rfl); intro _) | (apply es_alloc hT; (iterate 5 exact rfl); intro _)
        | (apply aw_condT; (iterate 2 exact rfl)) | (apply aw_condF; (iterate 2 exact rfl))
        | (apply es_case; exact rfl; all_goals intro hb; all_goals (fail_if_success (change true = true at hb)); all_goals (fail_if_success (change false = false at hb)); all_goals (try dsimp only at hb); all_goals (try simp only [hb]); all_goals (first | replace hb := of_decide_eq_true hb | replace hb := of_decide_eq_false hb | replace hb := bne_t hb | replace hb := bne_f hb | replace hb := eq_of_beq hb | replace hb := ne_of_beq_false hb | skip); all_goals (try (exfalso; omega)))
        | (apply aw_cond; exact rfl; all_goals intro hb; all_goals (try dsimp only at hb); all_goals (try simp only [hb]); all_goals (first | replace hb := of_decide_eq_true hb | replace hb := of_decide_eq_false hb | replace hb := bne_t hb | replace hb := bne_f hb | replace hb := eq_of_beq hb | replace hb := ne_of_beq_false hb | skip); all_goals (try (exfalso; omega))))
      all_goals first
        | (exfalso; simp [endedA] at he; omega)
        | (apply ret1; exact rfl; exact ⟨by rw [show endedV l tick look = false from all_bad hxm he], by (repeat (first | exact dt_end | (apply dt_cons; · (repeat (first | exact sel0 | apply selS | apply selApp))) | apply dt_skip | apply dt_both))⟩)
        | skip
    · repeat' (first
        | apply aw_seq | apply aw_region | apply aw_ret | apply aw_skip | apply aw_exit | apply aw_block | apply es_nil
        | (apply es_pure hT; (iterate 4 exact rfl)) | (apply es_skip; (iterate 3 exact rfl)) | (apply es_skip0; (iterate 2 exact rfl))
        | (apply es_i64 hT; (iterate 4 exact rfl); (iterate 2 (first | omega | (dsimp only; omega))))
        | (apply aw_draw [] [] hmix; decide +kernel)
        | (apply es_idx hT; (iterate 8 exact rfl); (iterate 2 omega); exact hA')
        | (apply es_load; (iterate 5 exact rfl); exact ld_elem hT rfl rfl (hrd.mono (by (intro c hc; (repeat (first | exact hc | apply List.mem_cons_of_mem | apply List.mem_append_right))))) AskR.enc_len rfl hx2 rfl)
        | (apply es_store hT; (iterate 6 exact rfl); (repeat (first | exact sel0 | apply selS | apply selApp)); (iterate 3 exact rfl); exact Nat.le_of_ble_eq_true rfl)
        | (apply es_callQ (hs := ((audit_past W x.ends look tick (by unfold inW; omega) hlk (by unfold inW; omega)).mono (by simp))); (iterate 7 exact rfl))
        | (apply es_load; (iterate 5 exact rfl); first | (apply ld_blk hT; exact rfl; exact rfl; (repeat (first | exact List.mem_cons_self | apply List.mem_cons_of_mem | apply List.mem_append_right)); exact rfl; exact rfl) | (apply ld_all hT; exact rfl; exact rfl; (repeat (first | exact List.mem_cons_self | apply List.mem_cons_of_mem | apply List.mem_append_right)); exact rfl))
        | (apply es_box; (iterate 5 exact rfl); intro _) | (apply es_alloc hT; (iterate 5 exact rfl); intro _)
        | (apply aw_condT; (iterate 2 exact rfl)) | (apply aw_condF; (iterate 2 exact rfl))
        | (apply es_case; exact rfl; all_goals intro hb; all_goals (fail_if_success (change true = true at hb)); all_goals (fail_if_success (change false = false at hb)); all_goals (try dsimp only at hb); all_goals (try simp only [hb]); all_goals (first | replace hb := of_decide_eq_true hb | replace hb := of_decide_eq_false hb | replace hb := bne_t hb | replace hb := bne_f hb | replace hb := eq_of_beq hb | replace hb := ne_of_beq_false hb | skip); all_goals (try (exfalso; omega)))
        | (apply aw_cond; exact rfl; all_goals intro hb; all_goals (try dsimp only at hb); all_goals (try simp only [hb]); all_goals (first | replace hb := of_decide_eq_true hb | replace hb := of_decide_eq_false hb | replace hb := bne_t hb | replace hb := bne_f hb | replace hb := eq_of_beq hb | replace hb := ne_of_beq_false hb | skip); all_goals (try (exfalso; omega))))
      all_goals first
        | (exfalso; simp [endedA] at he; omega)
        | exact loopq_end (k + 1) (by (try dsimp only); omega) ⟨by (try dsimp only); omega, fun j y hj hy => by
            by_cases hjk : j = k
            · rw [hjk, hx] at hy; cases hy; exact he
            · exact hgd j y (by (try dsimp only at hj); omega) hy⟩ ⟨rfl, rfl, rfl, rfl, rfl, trivial⟩ (by (repeat (first | exact dt_end | (apply dt_cons; · (repeat (first | exact sel0 | apply selS | apply selApp))) | apply dt_skip | apply dt_both)))
        | skip
  · obtain rfl : k = l.length := by omega
    have hd1 : decide ((l.length : Int) < (l.length : Int)) = false := by simp
    repeat' (first
      | apply aw_seq | apply aw_region | apply aw_ret | apply aw_skip | apply aw_exit | apply aw_block | apply es_nil
      | (apply es_pure hT; (iterate 4 exact rfl)) | (apply es_skip; (iterate 3 exact rfl)) | (apply es_skip0; (iterate 2 exact rfl))
      | (apply es_i64 hT; (iterate 4 exact rfl); (iterate 2 (first | omega | (dsimp only; omega))))
      | (apply aw_draw [] [] hmix; decide +kernel)
      | (apply es_load; (iterate 5 exact rfl); first | (apply ld_blk hT; exact rfl; exact rfl; (repeat (first | exact List.mem_cons_self | apply List.mem_cons_of_mem | apply List.mem_append_right)); exact rfl; exact rfl) | (apply ld_all hT; exact rfl; exact rfl; (repeat (first | exact List.mem_cons_self | apply List.mem_cons_of_mem | apply List.mem_append_right)); exact rfl))
      | (apply es_box; (iterate 5 exact rfl); intro _) | (apply es_alloc hT; (iterate 5 exact rfl); intro _)
      | (apply aw_condT; (iterate 2 exact rfl)) | (apply aw_condF; (iterate 2 exact rfl))
      | (apply es_case; exact rfl; all_goals intro hb; all_goals (fail_if_success (change true = true at hb)); all_goals (fail_if_success (change false = false at hb)); all_goals (try dsimp only at hb); all_goals (try simp only [hb]); all_goals (first | replace hb := of_decide_eq_true hb | replace hb := of_decide_eq_false hb | replace hb := bne_t hb | replace hb := bne_f hb | replace hb := eq_of_beq hb | replace hb := ne_of_beq_false hb | skip); all_goals (try (exfalso; omega)))
      | (apply aw_cond; exact rfl; all_goals intro hb; all_goals (try dsimp only at hb); all_goals (try simp only [hb]); all_goals (first | replace hb := of_decide_eq_true hb | replace hb := of_decide_eq_false hb | replace hb := bne_t hb | replace hb := bne_f hb | replace hb := eq_of_beq hb | replace hb := ne_of_beq_false hb | skip); all_goals (try (exfalso; omega))))
    all_goals first
      | (exfalso; omega)
      | (apply ret1; exact rfl; exact ⟨by rw [show endedV l tick look = true from all_good hgd], by (repeat (first | exact dt_end | (apply dt_cons; · (repeat (first | exact sel0 | apply selS | apply selApp))) | apply dt_skip | apply dt_both))⟩)
      | skip
end Go.Proofs.Ytjcnaeengplcbaa

set_option linter.unusedSimpArgs false
set_option linter.unusedVariables false
namespace Go.Sl
open Go Go.RowKit Go.MapKept

/-- a map's entries, in the order in which they came -/
def mapI (l : List (Int × Value)) : List (Value × Value) := l.map fun e => (.int .i64 e.1, e.2)
def getI : List (Int × Value) → Int → Option Value
  | [], _ => none
  | (m, u) :: l, n => if n == m then some u else getI l n
def updI : List (Int × Value) → Int → Value → List (Int × Value)
  | [], n, v => [(n, v)]
  | (m, u) :: l, n, v => if n == m then (m, v) :: l else (m, u) :: updI l n v
def posI : List (Int × Value) → Int → Nat → Option (Nat × Value)
  | [], _, _ => none
  | (m, u) :: l, n, i => if n == m then some (i, u) else posI l n (i + 1)
theorem posI_get : ∀ (l : List (Int × Value)) (n : Int) (i : Nat), (posI l n i).map (·.2) = getI l n
  | [], n, i => rfl
  | (m, u) :: l, n, i => by
    unfold posI getI
    split
    · rfl
    · exact posI_get l n (i + 1)
theorem findNow_I : ∀ (es : List MapEntry) (l : List (Int × Value)) (n : Int) (i : Nat), es.map (fun e => (e.key, e.val)) = mapI l → Instr.findNow (.int .i64) (.int .i64 n) es i = some (posI l n i)
  | [], [], n, i, _ => rfl
  | [], _ :: _, n, i, h => by simp [mapI] at h
  | _ :: _, [], n, i, h => by simp [mapI] at h
  | e :: es, (m, u) :: l, n, i, h => by
    simp only [mapI, List.map_cons, List.cons.injEq, Prod.mk.injEq] at h
    obtain ⟨⟨hk, hv⟩, ht⟩ := h
    unfold Instr.findNow posI
    rw [hk, hv]
    simp only [Instr.sameNow, if_true]
    cases hn : (n == m)
    · exact findNow_I es l n (i + 1) ht
    · rfl
theorem posI_none : ∀ (l : List (Int × Value)) (n : Int) (v : Value) (i : Nat), posI l n i = none → updI l n v = l ++ [(n, v)]
  | [], n, v, i, _ => rfl
  | (m, u) :: l, n, v, i, h => by
    unfold posI at h
    unfold updI
    split at h
    · cases h
    · rename_i hn
      rw [if_neg hn, posI_none l n v (i + 1) h]; rfl
theorem posI_some : ∀ (l : List (Int × Value)) (n : Int) (v : Value) (i j : Nat) (u : Value), posI l n i = some (j, u) → ∃ k, j = i + k ∧ l[k]? = some (n, u) ∧ updI l n v = l.set k (n, v)
  | [], n, v, i, j, u, h => by cases h
  | (m, u') :: l, n, v, i, j, u, h => by
    unfold posI at h
    unfold updI
    split at h
    · rename_i hn
      injection h with h
      injection h with h1 h2
      have : n = m := by simpa using hn
      subst this h1 h2
      exact ⟨0, rfl, rfl, by rw [if_pos hn]; rfl⟩
    · rename_i hn
      obtain ⟨k, h1, h2, h3⟩ := posI_some l n v (i + 1) j u h
      exact ⟨k + 1, by omega, by simpa using h2, by rw [if_neg hn, h3]; rfl⟩

section
variable {P : Program} {W : World} {T : Tab} {N : Nat} {env : Env} {h h' : List Chunk} {kf : KF} {ops : Array Oper} {K : Env → List Chunk → Prop} {o : Oper} {rest : List Oper}

theorem es_makeMap {b : Bool} {d : Tmp} {ty pos af g} {t : TypeId} (hg : evalG ops env g = some b) (hb : b = true) (hd : Nat.blt d N = true) (hk : (kf.kd ⟨some d, .makeMap t none, ty, pos, af, g⟩).wr = true)
    (hK : ∀ g', ES P W N kf ops rest ((d, (.map (some g'))) :: env) (.map g' [] :: h) K) : ES P W N kf ops (⟨some d, .makeMap t none, ty, pos, af, g⟩ :: rest) env h K := fun a ha => by
  subst hb
  refine opI_of_write (it := mkItem kf ops ⟨some d, .makeMap t none, ty, pos, af, g⟩) (evalG_ok ha hg) (wr_of hk) (fun w hw => ?_)
  have e : (execOp a.eval ⟨some d, .makeMap t none, ty, pos, af, g⟩).run P w = .ok (.value (.map (some w.heap.size))) (w.alloc (.map #[] 0)) := rfl
  unfold Oper.wp
  show Oper.upon P _ a _ _ ((execOp a.eval ⟨some d, .makeMap t none, ty, pos, af, g⟩).run P w)
  rw [e]
  refine ⟨.map w.heap.size [] :: h, ?_, hK w.heap.size _ (ha.put (d := some d) hd)⟩
  exact hw.add (World.grownBy_alloc w _ none) ⟨hw.below.size, #[], 0, heap_alloc_new w _, rfl⟩ (fun g hg => by simp [Chunk.keys] at hg; omega)

theorem es_lookup (hT : TabOK P T) {b : Bool} {d : Tmp} {ty pos af g} {t kt et : TypeId} {ti ke te : TI} {x ix : Operand} {gm : Nat} {n : Int} {l : List (Int × Value)} {ok : Bool} (hg : evalG ops env g = some b) (hb : b = true) (hd : Nat.blt d N = true) (hk : (kf.kd ⟨some d, .lookup t x ix ok, ty, pos, af, g⟩).wr = true)
    (ht : T.lookup t = some ti) (htd : ti.desc = .map kt et) (hke : T.lookup kt = some ke) (hkd : ke.desc = .int .i64) (hte : T.lookup et = some te) (hx : evalE env x = some (.map (some gm))) (hi : evalE env ix = some (.int .i64 n)) (hm : Chunk.map gm (mapI l) ∈ h)
    (hK : ES P W N kf ops rest ((d, if ok then .tuple #[(getI l n).getD te.zero, .bool (getI l n).isSome] else (getI l n).getD te.zero) :: env) h K) : ES P W N kf ops (⟨some d, .lookup t x ix ok, ty, pos, af, g⟩ :: rest) env h K := fun a ha => by
  subst hb
  refine opI_of_write (it := mkItem kf ops ⟨some d, .lookup t x ix ok, ty, pos, af, g⟩) (evalG_ok ha hg) (wr_of hk) (fun w hw => ?_)
  obtain ⟨_, es, clock, h2, h3⟩ := hw.holds _ hm
  have g1 := (hT _ _ ht).1
  have g2 := (hT _ _ hke).1
  rw [htd] at g1
  rw [hkd] at g2
  have hf := findNow_I es.toList l n 0 h3
  have e : (execOp a.eval ⟨some d, .lookup t x ix ok, ty, pos, af, g⟩).run P w = .ok (.value (if ok then .tuple #[(getI l n).getD te.zero, .bool (getI l n).isSome] else (getI l n).getD te.zero)) w := by
    have hgd := hT _ _ hte
    have hpg := posI_get l n 0
    simp only [execOp, ha.eval hx, ha.eval hi, Instr.lookup, Sem.run_bind, run_underlying g1, Result.andThen_ok, Go.MapKept.run_getObj_map h2, Sem.run_pure, Go.MapKept.run_checkKey g2 (show IsKey (.int .i64) (.int .i64 n) from rfl) es.isEmpty 9999, Go.MapKept.run_findKey g2 hf]
    rcases hp : posI l n 0 with _ | ⟨j, u⟩
    · rw [hp] at hpg
      rw [← hpg]
      simp [hgd.zv]
    · rw [hp] at hpg
      rw [← hpg]
      simp
  unfold Oper.wp
  show Oper.upon P _ a _ _ ((execOp a.eval ⟨some d, .lookup t x ix ok, ty, pos, af, g⟩).run P w)
  rw [e]
  exact ⟨h, hw, hK _ (ha.put (d := some d) hd)⟩

theorem es_mapUpdate (hT : TabOK P T) {b : Bool} {ty pos af g} {t kt et : TypeId} {ti ke : TI} {x ix y : Operand} {gm : Nat} {n : Int} {v : Value} {l : List (Int × Value)} (hg : evalG ops env g = some b) (hb : b = true) (hk : (kf.kd ⟨none, .mapUpdate t x ix y, ty, pos, af, g⟩).wr = true)
    (ht : T.lookup t = some ti) (htd : ti.desc = .map kt et) (hke : T.lookup kt = some ke) (hkd : ke.desc = .int .i64) (hx : evalE env x = some (.map (some gm))) (hi : evalE env ix = some (.int .i64 n)) (hy : evalE env y = some v) (hp : h.Perm (.map gm (mapI l) :: h'))
    (hK : ES P W N kf ops rest env (.map gm (mapI (updI l n v)) :: h') K) : ES P W N kf ops (⟨none, .mapUpdate t x ix y, ty, pos, af, g⟩ :: rest) env h K := fun a ha => by
  subst hb
  refine opI_of_write (it := mkItem kf ops ⟨none, .mapUpdate t x ix y, ty, pos, af, g⟩) (evalG_ok ha hg) (wr_of hk) (fun w hw => ?_)
  have hw' := hw.perm hp
  obtain ⟨hB, es, clock, h2, h3⟩ := hw'.holds (.map gm (mapI l)) (by simp)
  have g1 := (hT _ _ ht).1
  have g2 := (hT _ _ hke).1
  rw [htd] at g1
  rw [hkd] at g2
  have hf := findNow_I es.toList l n 0 h3
  have hlt := (Array.getElem?_eq_some_iff.1 h2).1
  have key : ∀ (es' : Array MapEntry) (c' : Nat), es'.toList.map (fun e => (e.key, e.val)) = mapI (updI l n v) → Rep W (.map gm (mapI (updI l n v)) :: h') { w with heap := w.heap.setIfInBounds gm (.map es' c') } := fun es' c' he => by
    refine hw'.change (row := some gm) ⟨rfl, rfl, rfl, by simp, fun k hk1 hk2 => ?_⟩ (fun g' e => by simp [Chunk.keys]; exact (Option.some.inj e).symm) ⟨hB, es', c', ?_, he⟩ (fun g' hg' => .inl (by simpa [Chunk.keys] using hg'))
    · have hne : gm ≠ k := fun e => hk2 (by rw [e])
      simp [Array.getElem?_setIfInBounds, hne]
    · simp [Array.getElem?_setIfInBounds, hlt]
  rcases hpos : posI l n 0 with _ | ⟨j, u⟩
  · rw [hpos] at hf
    have e : (execOp a.eval ⟨none, .mapUpdate t x ix y, ty, pos, af, g⟩).run P w = .ok .skip { w with heap := w.heap.setIfInBounds gm (.map (es.push { key := .int .i64 n, val := v, born := clock }) (clock + 1)) } := by
      simp only [execOp, ha.eval hx, ha.eval hi, ha.eval hy, Instr.mapUpdate, Sem.run_bind, run_underlying g1, Result.andThen_ok, Go.MapKept.run_getObj_map h2, Sem.run_pure, Go.MapKept.run_checkKey g2 (show IsKey (.int .i64) (.int .i64 n) from rfl) false 9999, Go.MapKept.run_findKey g2 hf, Go.MapKept.run_setObj_map _ h2]
    unfold Oper.wp
    show Oper.upon P _ a _ _ ((execOp a.eval ⟨none, .mapUpdate t x ix y, ty, pos, af, g⟩).run P w)
    rw [e]
    refine ⟨_, key _ _ ?_, hK _ ha⟩
    rw [posI_none l n v 0 hpos, Array.toList_push, List.map_append, h3]
    simp [mapI]
  · rw [hpos] at hf
    obtain ⟨k, hjk, hlk, hupd⟩ := posI_some l n v 0 j u hpos
    have hjk : j = k := by omega
    subst hjk
    have hkey : (es[j]?).map (·.key) = some (.int .i64 n) := by
      have : (es.toList.map (fun e => (e.key, e.val)))[j]? = some (.int .i64 n, u) := by rw [h3]; simp [mapI, hlk]
      simp only [List.getElem?_map, Array.getElem?_toList] at this
      rcases hes : es[j]? with _ | en
      · rw [hes] at this; cases this
      · rw [hes] at this; simp at this; simp [this.1]
    have hks : ∀ w : World, (Instr.keyThatStays (.int .i64 n) (.int .i64 n)).run P w = .ok (.int .i64 n) w := fun w => by
      have : Instr.sameBits 10000 (.int .i64 n) (.int .i64 n) = true := by simp [Instr.sameBits]
      simp [Instr.keyThatStays, this]
    have e : (execOp a.eval ⟨none, .mapUpdate t x ix y, ty, pos, af, g⟩).run P w = .ok .skip { w with heap := w.heap.setIfInBounds gm (.map (es.modify j fun e => { e with key := .int .i64 n, val := v }) clock) } := by
      simp only [execOp, ha.eval hx, ha.eval hi, ha.eval hy, Instr.mapUpdate, Sem.run_bind, run_underlying g1, Result.andThen_ok, Go.MapKept.run_getObj_map h2, Sem.run_pure, Go.MapKept.run_checkKey g2 (show IsKey (.int .i64) (.int .i64 n) from rfl) false 9999, Go.MapKept.run_findKey g2 hf, hkey, Option.getD_some, hks, Go.MapKept.run_setObj_map _ h2]
    unfold Oper.wp
    show Oper.upon P _ a _ _ ((execOp a.eval ⟨none, .mapUpdate t x ix y, ty, pos, af, g⟩).run P w)
    rw [e]
    refine ⟨_, key _ _ ?_, hK _ ha⟩
    rw [hupd]
    apply List.ext_getElem?
    intro i
    have h3i : ∀ i : Nat, (es[i]?).map (fun e => (e.key, e.val)) = (mapI l)[i]? := fun i => by rw [← h3]; simp
    have hi3 := h3i i
    simp only [List.getElem?_map, Array.getElem?_toList, Array.getElem?_modify, mapI, List.getElem?_set] at hi3 ⊢
    by_cases hij : j = i
    · subst hij
      have hjl := (List.getElem?_eq_some_iff.1 hlk).1
      rcases hes : es[j]? with _ | en
      · rw [hes] at hkey; cases hkey
      · simp [hjl]
    · simp [hij]
      simpa using hi3
end
end Go.Sl

set_option linter.unusedSimpArgs false
set_option linter.unusedVariables false
namespace Go.Proofs.Ytjcnaeengplcbaa
open Go Go.Sl
attribute [local irreducible] AW ES EP Ld RetQ
set_option maxRecDepth 100000

theorem reads_nil {W : World} {h : List Chunk} {A : Option Addr} {k : Nat} : Reads W h A 0 k [] := ⟨by simp, by simp, fun w hw j v hj => by simp at hj⟩
theorem blot_Heads0 (W : World) (A : Option Addr) (c : Nat) : QSpec Try.prog W 19 [.slice A 0 c] [] (.slice none 0 0) := by
  refine QSpec.ofD (fun h' hs => ?_)
  refine spec_body Try.func19 rfl rfl Try.results19 Try.ntmps19 rfl rfl ?_
  repeat' (first
    | apply aw_seq | apply aw_region | apply aw_ret | apply aw_skip | apply aw_exit | apply aw_block | apply es_nil
    | (apply es_pure hT; (iterate 4 exact rfl)) | (apply es_skip; (iterate 3 exact rfl)) | (apply es_skip0; (iterate 2 exact rfl))
    | (apply es_i64 hT; (iterate 4 exact rfl); (iterate 2 (first | omega | (dsimp only; omega))))
    | (apply aw_draw [] [] hmix; decide +kernel)
    | (apply es_load; (iterate 5 exact rfl); first | (apply ld_blk hT; exact rfl; exact rfl; (repeat (first | exact List.mem_cons_self | apply List.mem_cons_of_mem | apply List.mem_append_right)); exact rfl; exact rfl) | (apply ld_all hT; exact rfl; exact rfl; (repeat (first | exact List.mem_cons_self | apply List.mem_cons_of_mem | apply List.mem_append_right)); exact rfl))
    | (apply es_box; (iterate 5 exact rfl); intro _) | (apply es_alloc hT; (iterate 5 exact rfl); intro _)
    | (apply aw_condT; (iterate 2 exact rfl)) | (apply aw_condF; (iterate 2 exact rfl))
    | (apply es_case; exact rfl; all_goals intro hb; all_goals (fail_if_success (change true = true at hb)); all_goals (fail_if_success (change false = false at hb)); all_goals (try dsimp only at hb); all_goals (try simp only [hb]); all_goals (first | replace hb := of_decide_eq_true hb | replace hb := of_decide_eq_false hb | replace hb := bne_t hb | replace hb := bne_f hb | replace hb := eq_of_beq hb | replace hb := ne_of_beq_false hb | skip); all_goals (try (exfalso; omega)))
    | (apply aw_cond; exact rfl; all_goals intro hb; all_goals (try dsimp only at hb); all_goals (try simp only [hb]); all_goals (first | replace hb := of_decide_eq_true hb | replace hb := of_decide_eq_false hb | replace hb := bne_t hb | replace hb := bne_f hb | replace hb := eq_of_beq hb | replace hb := ne_of_beq_false hb | skip); all_goals (try (exfalso; omega))))
  refine aw_loopD (α := Unit) (E := fun _ => [(3, .slice none 0 0), (8, .int .i64 0), (9, .int .i64 0)]) (H := fun _ => h') (μ := fun _ => 0) (S := fun _ => True) () trivial ⟨rfl, rfl, rfl, trivial⟩ (by (repeat (first | exact dt_end | (apply dt_cons; · (repeat (first | exact sel0 | apply selS | apply selApp))) | apply dt_skip | apply dt_both))) ?_
  intro _ _
  have hd1 : decide ((0 : Int) < 0) = false := by decide
  repeat' (first
    | apply aw_seq | apply aw_region | apply aw_ret | apply aw_skip | apply aw_exit | apply aw_block | apply es_nil
    | (apply es_pure hT; (iterate 4 exact rfl)) | (apply es_skip; (iterate 3 exact rfl)) | (apply es_skip0; (iterate 2 exact rfl))
    | (apply es_i64 hT; (iterate 4 exact rfl); (iterate 2 (first | omega | (dsimp only; omega))))
    | (apply aw_draw [] [] hmix; decide +kernel)
    | (apply es_load; (iterate 5 exact rfl); first | (apply ld_blk hT; exact rfl; exact rfl; (repeat (first | exact List.mem_cons_self | apply List.mem_cons_of_mem | apply List.mem_append_right)); exact rfl; exact rfl) | (apply ld_all hT; exact rfl; exact rfl; (repeat (first | exact List.mem_cons_self | apply List.mem_cons_of_mem | apply List.mem_append_right)); exact rfl))
    | (apply es_box; (iterate 5 exact rfl); intro _) | (apply es_alloc hT; (iterate 5 exact rfl); intro _)
    | (apply aw_condT; (iterate 2 exact rfl)) | (apply aw_condF; (iterate 2 exact rfl))
    | (apply es_case; exact rfl; all_goals intro hb; all_goals (fail_if_success (change true = true at hb)); all_goals (fail_if_success (change false = false at hb)); all_goals (try dsimp only at hb); all_goals (try simp only [hb]); all_goals (first | replace hb := of_decide_eq_true hb | replace hb := of_decide_eq_false hb | replace hb := bne_t hb | replace hb := bne_f hb | replace hb := eq_of_beq hb | replace hb := ne_of_beq_false hb | skip); all_goals (try (exfalso; omega)))
    | (apply aw_cond; exact rfl; all_goals intro hb; all_goals (try dsimp only at hb); all_goals (try simp only [hb]); all_goals (first | replace hb := of_decide_eq_true hb | replace hb := of_decide_eq_false hb | replace hb := bne_t hb | replace hb := bne_f hb | replace hb := eq_of_beq hb | replace hb := ne_of_beq_false hb | skip); all_goals (try (exfalso; omega))))
  all_goals first
    | (exfalso; omega)
    | (apply ret1; exact rfl; exact ⟨rfl, by (repeat (first | exact dt_end | (apply dt_cons; · (repeat (first | exact sel0 | apply selS | apply selApp))) | apply dt_skip | apply dt_both))⟩)
    | skip
theorem audit_Once0 (W : World) (A : Option Addr) (c : Nat) (A2 : Option Addr) (c2 : Nat) : QSpec Try.prog W 23 [.slice A 0 c, .slice A2 0 c2] [] (.bool true) := by
  refine QSpec.ofD (fun h' hs => ?_)
  have hcf := fun k (g : Nat) => containsFuncAskR W k A 0 c [] rfl reads_nil 55 [.pointer (some ⟨g, 0, none⟩)] (fun _ => false) (fun x hx => by cases hx) (by omega)
  refine spec_body Try.func23 rfl rfl Try.results23 Try.ntmps23 rfl rfl ?_
  repeat' (first
    | apply aw_seq | apply aw_region | apply aw_ret | apply aw_skip | apply aw_exit | apply aw_block | apply es_nil
    | (apply es_pure hT; (iterate 4 exact rfl)) | (apply es_skip; (iterate 3 exact rfl)) | (apply es_skip0; (iterate 2 exact rfl))
    | (apply es_i64 hT; (iterate 4 exact rfl); (iterate 2 (first | omega | (dsimp only; omega))))
    | (apply aw_draw [] [] hmix; decide +kernel)
    | (apply es_makeMap; (iterate 4 exact rfl); intro gm)
    | (apply es_alloc hT; (iterate 5 exact rfl); first | ((fail_if_success (have q := g5)); intro g5) | intro _)
    | (apply es_store hT; (iterate 6 exact rfl); (repeat (first | exact sel0 | apply selS | apply selApp)); (iterate 3 exact rfl); exact Nat.le_of_ble_eq_true rfl)
    | (apply es_load; (iterate 5 exact rfl); first | (apply ld_blk hT; exact rfl; exact rfl; (repeat (first | exact List.mem_cons_self | apply List.mem_cons_of_mem | apply List.mem_append_right)); exact rfl; exact rfl) | (apply ld_all hT; exact rfl; exact rfl; (repeat (first | exact List.mem_cons_self | apply List.mem_cons_of_mem | apply List.mem_append_right)); exact rfl))
    | (apply es_box; (iterate 5 exact rfl); intro _) | (apply es_alloc hT; (iterate 5 exact rfl); intro _)
    | (apply aw_condT; (iterate 2 exact rfl)) | (apply aw_condF; (iterate 2 exact rfl))
    | (apply es_case; exact rfl; all_goals intro hb; all_goals (fail_if_success (change true = true at hb)); all_goals (fail_if_success (change false = false at hb)); all_goals (try dsimp only at hb); all_goals (try simp only [hb]); all_goals (first | replace hb := of_decide_eq_true hb | replace hb := of_decide_eq_false hb | replace hb := bne_t hb | replace hb := bne_f hb | replace hb := eq_of_beq hb | replace hb := ne_of_beq_false hb | skip); all_goals (try (exfalso; omega)))
    | (apply aw_cond; exact rfl; all_goals intro hb; all_goals (try dsimp only at hb); all_goals (try simp only [hb]); all_goals (first | replace hb := of_decide_eq_true hb | replace hb := of_decide_eq_false hb | replace hb := bne_t hb | replace hb := bne_f hb | replace hb := eq_of_beq hb | replace hb := ne_of_beq_false hb | skip); all_goals (try (exfalso; omega))))
  refine aw_loopD (α := Unit) (E := fun _ => [(0, .slice A 0 c), (5, .pointer (some ⟨g5, 0, none⟩)), (10, .int .i64 0), (11, .int .i64 0)]) (H := fun _ => h') (μ := fun _ => 0) (S := fun _ => True) () trivial ⟨rfl, rfl, rfl, rfl, trivial⟩ (by (repeat (first | exact dt_end | (apply dt_cons; · (repeat (first | exact sel0 | apply selS | apply selApp))) | apply dt_skip | apply dt_both))) ?_
  intro _ _
  have hd1 : decide ((0 : Int) < 0) = false := by decide
  repeat' (first
    | apply aw_seq | apply aw_region | apply aw_ret | apply aw_skip | apply aw_exit | apply aw_block | apply es_nil
    | (apply es_pure hT; (iterate 4 exact rfl)) | (apply es_skip; (iterate 3 exact rfl)) | (apply es_skip0; (iterate 2 exact rfl))
    | (apply es_i64 hT; (iterate 4 exact rfl); (iterate 2 (first | omega | (dsimp only; omega))))
    | (apply aw_draw [] [] hmix; decide +kernel)
    | (apply es_callQ (hs := (hcf _ g5)); (iterate 7 exact rfl))
    | (apply es_load; (iterate 5 exact rfl); first | (apply ld_blk hT; exact rfl; exact rfl; (repeat (first | exact List.mem_cons_self | apply List.mem_cons_of_mem | apply List.mem_append_right)); exact rfl; exact rfl) | (apply ld_all hT; exact rfl; exact rfl; (repeat (first | exact List.mem_cons_self | apply List.mem_cons_of_mem | apply List.mem_append_right)); exact rfl))
    | (apply es_box; (iterate 5 exact rfl); intro _) | (apply es_alloc hT; (iterate 5 exact rfl); intro _)
    | (apply aw_condT; (iterate 2 exact rfl)) | (apply aw_condF; (iterate 2 exact rfl))
    | (apply es_case; exact rfl; all_goals intro hb; all_goals (fail_if_success (change true = true at hb)); all_goals (fail_if_success (change false = false at hb)); all_goals (try dsimp only at hb); all_goals (try simp only [hb]); all_goals (first | replace hb := of_decide_eq_true hb | replace hb := of_decide_eq_false hb | replace hb := bne_t hb | replace hb := bne_f hb | replace hb := eq_of_beq hb | replace hb := ne_of_beq_false hb | skip); all_goals (try (exfalso; omega)))
    | (apply aw_cond; exact rfl; all_goals intro hb; all_goals (try dsimp only at hb); all_goals (try simp only [hb]); all_goals (first | replace hb := of_decide_eq_true hb | replace hb := of_decide_eq_false hb | replace hb := bne_t hb | replace hb := bne_f hb | replace hb := eq_of_beq hb | replace hb := ne_of_beq_false hb | skip); all_goals (try (exfalso; omega))))
  all_goals first
    | (exfalso; omega)
    | (apply ret1; exact rfl; exact ⟨by simp [idxOf], by (repeat (first | exact dt_end | (apply dt_cons; · (repeat (first | exact sel0 | apply selS | apply selApp))) | apply dt_skip | apply dt_both))⟩)
    | skip
end Go.Proofs.Ytjcnaeengplcbaa

set_option linter.unusedSimpArgs false
set_option linter.unusedVariables false
namespace Go.Proofs.Ytjcnaeengplcbaa
open Go Go.Sl

/-! ### rows by an order -/
theorem ins_ord {α : Type} {p : α → α → Bool} {m : List α} {q : α} (h : m.Pairwise fun a b => p a b = true) (htr : ∀ a b c, p a b = true → p b c = true → p a c = true) (htot : ∀ x ∈ m, p x q = true ∨ p q x = true) {n : Nat} (hn : n = (m.takeWhile fun x => p x q).length) :
    (m.take n ++ [q] ++ m.drop n).Pairwise fun a b => p a b = true := by
  subst hn
  have hl : ∀ x ∈ m.take (m.takeWhile fun x => p x q).length, p x q = true := fun x hx => take_while_all (p := fun x => p x q) (l := m) x hx
  have hsplit : m.take (m.takeWhile fun x => p x q).length ++ m.drop (m.takeWhile fun x => p x q).length = m := List.take_append_drop _ _
  have hp := h
  rw [← hsplit, List.pairwise_append] at hp
  obtain ⟨p1, p2, p3⟩ := hp
  have hr : ∀ y ∈ m.drop (m.takeWhile fun x => p x q).length, p q y = true := fun y hy => by
    cases hm : m.drop (m.takeWhile fun x => p x q).length with
    | nil => rw [hm] at hy; cases hy
    | cons z r =>
      have hz := drop_while_head (p := fun x => p x q) (l := m) hm
      have hzl : z ∈ m := List.mem_of_mem_drop (by rw [hm]; simp)
      have hqz : p q z = true := by
        rcases htot z hzl with h | h
        · rw [hz] at h; cases h
        · exact h
      rw [hm] at hy p2
      rcases List.mem_cons.1 hy with rfl | hy
      · exact hqz
      · exact htr _ _ _ hqz (List.rel_of_pairwise_cons p2 hy)
  rw [List.append_assoc, List.pairwise_append]
  refine ⟨p1, ?_, fun x hx y hy => ?_⟩
  · rw [List.singleton_append, List.pairwise_cons]; exact ⟨hr, p2⟩
  · rw [List.singleton_append] at hy
    rcases List.mem_cons.1 hy with rfl | hy
    · exact hl x hx
    · exact p3 x hx y hy
theorem ord_eq {α : Type} {p : α → α → Bool} (has : ∀ x y, p x y = true → p y x = true → False) : ∀ {a b : List α}, a.Pairwise (fun x y => p x y = true) → b.Pairwise (fun x y => p x y = true) → a.Perm b → a = b
  | [], b, _, _, hp => by rw [List.nil_perm.1 hp]
  | x :: a, [], _, _, hp => by have := hp.length_eq; simp at this
  | x :: a, y :: b, ha, hb, hp => by
    rw [List.pairwise_cons] at ha hb
    have hxy : x = y := by
      rcases List.mem_cons.1 (hp.mem_iff.1 (List.mem_cons_self (a := x) (l := a))) with h | h
      · exact h
      · rcases List.mem_cons.1 (hp.mem_iff.2 (List.mem_cons_self (a := y) (l := b))) with h' | h'
        · exact h'.symm
        · exact (has _ _ (ha.1 y h') (hb.1 x h)).elim
    subst hxy
    rw [ord_eq has ha.2 hb.2 (List.Perm.cons_inv hp)]

/-! ### orders -/
def betterB (s a b : Int) : Bool := (s == 1 && decide (a > b)) || (s == 2 && decide (a < b))
def isB (s : Int) : Bool := s == 1 || s == 2
/-- which of a side is ahead -/
def aheadS (s : Int) (a b : Order) : Bool := if a.price = b.price then decide (a.seq < b.seq) else betterB s a.price b.price
theorem aheadS_tr {s : Int} (a b c : Order) (h1 : aheadS s a b = true) (h2 : aheadS s b c = true) : aheadS s a c = true := by
  unfold aheadS betterB at *
  split at h1 <;> split at h2 <;> split <;> simp at * <;> omega
theorem aheadS_as {s : Int} (a b : Order) (h1 : aheadS s a b = true) (h2 : aheadS s b a = true) : False := by
  unfold aheadS betterB at *
  split at h1 <;> split at h2 <;> simp at * <;> omega
theorem aheadS_tot {s : Int} (hs : isB s = true) (a b : Order) (h : a.seq ≠ b.seq) : aheadS s a b = true ∨ aheadS s b a = true := by
  unfold aheadS betterB isB at *
  simp at hs
  split <;> split <;> simp at * <;> omega

def cfO (a b : Order) : Int := if betterB a.side a.price b.price then -1 else if betterB a.side b.price a.price then 1 else cmpI a.seq b.seq
theorem cfO_ahead {s : Int} (hs : isB s = true) {a b : Order} (ha : a.side = s) (hb : b.side = s) : (cfO a b < 0) ↔ aheadS s a b = true := by
  unfold cfO aheadS betterB cmpI isB at *
  subst ha
  simp at hs
  by_cases hp : a.price = b.price
  · rw [if_pos hp, hp]
    simp
    split <;> (try split) <;> omega
  · rw [if_neg hp]
    constructor
    · intro h
      split at h
      · assumption
      · split at h
        · omega
        · rename_i h1 h2
          exfalso
          simp at h1 h2
          omega
    · intro h
      rw [if_pos h]; omega

def insO (s : Int) (out : List Order) (o : Order) : List Order := out.take (out.takeWhile fun x => aheadS s x o).length ++ [o] ++ out.drop (out.takeWhile fun x => aheadS s x o).length
def isSide (s : Int) (o : Order) : Bool := o.side == s
def sideO (s : Int) (l : List Order) : List Order := (l.filter (isSide s)).foldl (insO s) []
def uqSeq (l : List Order) : Prop := l.Pairwise fun a b => a.seq ≠ b.seq
theorem insO_perm (s : Int) (out : List Order) (o : Order) : (insO s out o).Perm (o :: out) := ins_perm out o _
theorem foldO_perm (s : Int) : ∀ (l out : List Order), (l.foldl (insO s) out).Perm (l ++ out)
  | [], out => List.Perm.refl _
  | x :: l, out => by
    rw [List.foldl_cons]
    exact (foldO_perm s l (insO s out x)).trans ((List.Perm.append_left l (insO_perm s out x)).trans List.perm_middle)
theorem uqSeq_perm {l r : List Order} (hp : r.Perm l) (h : uqSeq l) : uqSeq r := (hp.pairwise_iff (fun {a b} hab e => hab e.symm)).2 h
theorem foldO_up {s : Int} (hs : isB s = true) : ∀ (l out : List Order), uqSeq (l ++ out) → out.Pairwise (fun a b => aheadS s a b = true) → (l.foldl (insO s) out).Pairwise (fun a b => aheadS s a b = true)
  | [], out, _, h => h
  | x :: l, out, hu, h => by
    rw [List.foldl_cons]
    have hu2 : uqSeq (l ++ insO s out x) := by
      have hp : (x :: l ++ out).Perm (l ++ insO s out x) := List.perm_middle.symm.trans (List.Perm.append_left l (insO_perm s out x).symm)
      exact uqSeq_perm hp.symm hu
    refine foldO_up hs l (insO s out x) hu2 (ins_ord h (fun a b c => aheadS_tr a b c) (fun y hy => ?_) rfl)
    have hu3 : uqSeq (x :: (l ++ out)) := hu
    unfold uqSeq at hu3
    rw [List.pairwise_cons] at hu3
    exact aheadS_tot hs y x (fun e => hu3.1 y (List.mem_append_right _ hy) e.symm)
theorem sideO_perm (s : Int) (l : List Order) : (sideO s l).Perm (l.filter (isSide s)) := by
  have := foldO_perm s (l.filter (isSide s)) []
  rw [List.append_nil] at this; exact this
theorem sideO_up {s : Int} (hs : isB s = true) {l : List Order} (hu : uqSeq l) : (sideO s l).Pairwise (fun a b => aheadS s a b = true) :=
  foldO_up hs _ [] (by rw [List.append_nil]; exact hu.sublist List.filter_sublist) List.Pairwise.nil
theorem sideO_len (s : Int) (l : List Order) : (sideO s l).length ≤ l.length := by
  rw [(sideO_perm s l).length_eq]; exact List.length_filter_le _ _
theorem sideO_side {s : Int} {l : List Order} {o : Order} (h : o ∈ sideO s l) : o ∈ l ∧ o.side = s := by
  have := (sideO_perm s l).mem_iff.1 h
  rw [List.mem_filter] at this
  exact ⟨this.1, by simpa [isSide] using this.2⟩
/-- what the sort leaves is the side by its order -/
theorem side_sorted {s : Int} {l m : List Order} (hu : uqSeq l) (hv : ∀ o ∈ l, isB o.side = true) (hp : m.Perm (l.filter (isSide s))) (hs : m.Pairwise (fun a b => ¬ cfO b a < 0)) : m = sideO s l := by
  by_cases hb : isB s = true
  · refine ord_eq (p := aheadS s) (fun x y => aheadS_as x y) ?_ (sideO_up hb hu) (hp.trans (sideO_perm s l).symm)
    have hmu : uqSeq m := uqSeq_perm hp (hu.sublist List.filter_sublist)
    have hms : ∀ o ∈ m, o.side = s := fun o ho => by
      have := hp.mem_iff.1 ho
      rw [List.mem_filter] at this
      simpa [isSide] using this.2
    refine List.Pairwise.imp_of_mem (fun {a b} ha hb' hab => ?_) (hs.and hmu)
    rcases aheadS_tot hb a b hab.2 with h | h
    · exact h
    · exact absurd ((cfO_ahead hb (hms b hb') (hms a ha)).2 h) hab.1
  · have he : l.filter (isSide s) = [] := by
      rw [List.filter_eq_nil_iff]
      intro o ho hos
      have := hv o ho
      simp only [isSide, beq_iff_eq] at hos
      rw [hos] at this
      exact hb this
    rw [he] at hp
    rw [List.perm_nil.1 hp]
    unfold sideO; rw [he]; rfl

/-! ### levels -/
structure Lvl where
  price : Int
  qty : Int
  deriving DecidableEq
def Lvl.enc (v : Lvl) : List Value := [.int .i64 v.price, .int .i64 v.qty]
theorem Lvl.enc_len (v : Lvl) : v.enc.length = 2 := rfl
theorem Lvl.enc_one (v : Lvl) : ∀ x ∈ v.enc, x.oneCell' = true := List.all_eq_true.1 (rfl : v.enc.all Value.oneCell' = true)
def addLv (v : List Lvl) (o : Order) : List Lvl := match v.getLast? with
  | some x => if x.price = o.price then v.dropLast ++ [⟨x.price, x.qty + o.left⟩] else v ++ [⟨o.price, o.left⟩]
  | none => [⟨o.price, o.left⟩]
def levelsO (o : List Order) : List Lvl := o.foldl addLv []
theorem addLv_len (v : List Lvl) (o : Order) : (addLv v o).length ≤ v.length + 1 := by
  unfold addLv
  split
  · rename_i x hx
    have hne : v ≠ [] := fun e => by rw [e] at hx; cases hx
    split
    · simp
      (try (have := List.length_pos_iff.2 hne; omega))
    · simp
  · simp
theorem levelsO_add (o : List Order) (x : Order) : levelsO (o ++ [x]) = addLv (levelsO o) x := by simp [levelsO, List.foldl_append]
end Go.Proofs.Ytjcnaeengplcbaa

set_option linter.unusedSimpArgs false
set_option linter.unusedVariables false
namespace Go.Proofs.Ytjcnaeengplcbaa
open Go Go.Sl
attribute [local irreducible] AW ES EP Ld RetQ
set_option maxRecDepth 100000

def okO (o : Order) : Bool := decide (o.id ≥ 1) && decide (o.seq ≥ 1) && decide (o.price ≥ 1) && decide (o.price ≤ 1000000) && decide (o.left ≥ 1) && decide (o.left ≤ 1000000) && decide (o.owner ≥ 0) && isB o.side
def hasO (id : Int) (o : Order) : Bool := o.id == id
/-! ### Add -/
def clashO (o x : Order) : Bool := x.id == o.id || x.seq == o.seq
def addOE (o : Order) (l : List Order) : Int := if okO o = false ∨ idxOf (clashO o) l ≥ 0 then 1 else if l.length ≥ 64 then 3 else 0
def addO (o : Order) (l : List Order) : List Order := if addOE o l = 0 then l ++ [o] else l
/-! ### Get, Drop, Less -/
def getO (id : Int) (l : List Order) : Option Order := l.find? (hasO id)
theorem find_at {α : Type} {p : α → Bool} (r : List α) : (idxOf p r = -1 ∧ r.find? p = none) ∨ (∃ (i : Nat) (x : α), idxOf p r = i ∧ r[i]? = some x ∧ p x = true ∧ r.find? p = some x) := by
  by_cases h : idxOf p r < 0
  · left
    have := idxOf_ge (p := p) (l := r)
    refine ⟨by omega, ?_⟩
    rw [List.find?_eq_none]
    intro x hx
    have := idxOf_neg'.1 h x hx
    simp [this]
  · right
    obtain ⟨i, hi⟩ := Int.eq_ofNat_of_zero_le (show 0 ≤ idxOf p r by omega)
    obtain ⟨x, hx, hp, hb⟩ := idxOf_first (p := p) (l := r) (i := i) hi
    refine ⟨i, x, hi, hx, hp, ?_⟩
    rw [List.find?_eq_some_iff_getElem]
    obtain ⟨hlt, hxe⟩ := List.getElem?_eq_some_iff.1 hx
    refine ⟨hp, i, hlt, hxe, fun j hj => ?_⟩
    have := hb j r[j] hj (List.getElem?_eq_getElem (by omega))
    simp [this]
def lessE (id left : Int) (l : List Order) : Int := match getO id l with
  | none => 4
  | some x => if left < 1 ∨ left > x.left then 1 else 0
def lessO (id left : Int) (l : List Order) : List Order := match getO id l with
  | none => l
  | some x => if lessE id left l = 0 then l.set (idxOf (hasO id) l).toNat { x with left := left } else l
theorem book_SideNil (W : World) (s : Int) : QSpec Try.prog W 57 [.pointer none, .int .i64 s] [] (.slice none 0 0) := by
  refine QSpec.ofD (fun h' hs => ?_)
  refine spec_body Try.func57 rfl rfl Try.results57 Try.ntmps57 rfl rfl ?_
  repeat' (first
    | apply aw_seq | apply aw_region | apply aw_ret | apply aw_skip | apply aw_exit | apply aw_block | apply es_nil
    | (apply es_pure hT; (iterate 4 exact rfl)) | (apply es_skip; (iterate 3 exact rfl)) | (apply es_skip0; (iterate 2 exact rfl))
    | (apply es_i64 hT; (iterate 4 exact rfl); (iterate 2 omega))
    | (apply aw_draw [] [] hmix; decide +kernel)
    | (apply es_load; (iterate 5 exact rfl); first | exact ld_blk hT rfl rfl mem0 rfl rfl | exact ld_all hT rfl rfl mem0 rfl)
    | (apply es_load; (iterate 5 exact rfl); first | exact ld_blk hT rfl rfl mem1 rfl rfl | exact ld_all hT rfl rfl mem1 rfl)
    | (apply es_load; (iterate 5 exact rfl); first | exact ld_blk hT rfl rfl mem2 rfl rfl | exact ld_all hT rfl rfl mem2 rfl)
    | (apply es_box; (iterate 5 exact rfl); intro _) | (apply es_alloc hT; (iterate 5 exact rfl); intro _)
    | (apply aw_condT; (iterate 2 exact rfl)) | (apply aw_condF; (iterate 2 exact rfl))
    | (apply es_case; exact rfl; all_goals intro hb; all_goals (try simp only [hb]); all_goals (first | replace hb := of_decide_eq_true hb | replace hb := of_decide_eq_false hb | replace hb := bne_t hb | replace hb := bne_f hb | skip); all_goals (try (exfalso; omega)))
    | (apply aw_cond; exact rfl; all_goals intro hb; all_goals (try simp only [hb]); all_goals (first | replace hb := of_decide_eq_true hb | replace hb := of_decide_eq_false hb | replace hb := bne_t hb | replace hb := bne_f hb | skip); all_goals (try (exfalso; omega))))
  apply ret1; exact rfl
  exact ⟨rfl, by (repeat (first | exact dt_end | apply dt_skip))⟩
end Go.Proofs.Ytjcnaeengplcbaa

set_option linter.unusedSimpArgs false
set_option linter.unusedVariables false
namespace Go.Sl
open Go Go.RowKit Go.Sort Go.Proofs Go.Shelf

theorem flatK_list {α : Type} [Inhabited α] {enc : α → List Value} {k : Nat} (hk : ∀ x, (enc x).length = k) (d : Array α) : (flatK enc k d).toList = d.toList.flatMap enc := by
  apply List.ext_getElem?
  intro t
  have hl := flat_len (enc := enc) hk d.toList
  by_cases ht : t < d.size * k
  · have k0 : 0 < k := by
      rcases Nat.eq_zero_or_pos k with h | h
      · subst h; simp at ht
      · exact h
    have hi : t / k < d.size := (Nat.div_lt_iff_lt_mul k0).2 ht
    have hx : d.toList[t / k]? = some d[t / k]! := by
      rw [Array.getElem?_toList, getElem!_pos d _ hi]; simp [hi]
    have e := flat_at hk d.toList (t / k) (t % k) _ hx (Nat.mod_lt _ k0)
    rw [Nat.div_add_mod' t k] at e
    rw [e]
    have h1 := get_flatK enc k d t ht
    have hs : t < (flatK enc k d).size := by simpa using ht
    rw [Array.getElem?_toList, Array.getElem?_eq_getElem hs, ← getElem!_pos _ t hs, h1]
    have hm : t % k < (enc d[t / k]!).length := by rw [hk]; exact Nat.mod_lt _ k0
    rw [List.getElem?_eq_getElem hm, getElem!_pos (enc d[t / k]!) (t % k) hm]
  · rw [List.getElem?_eq_none (by simp; omega), List.getElem?_eq_none (by rw [hl]; simp; omega)]

theorem permIn_list {α : Type} [Inhabited α] {d d' : Array α} (h : PermIn 0 d.size d d') : d'.toList.Perm d.toList := by
  obtain ⟨h1, _, h3⟩ := h
  have e1 : d'.extract 0 d.size = d' := by rw [← h1]; simp
  have e2 : d.extract 0 d.size = d := by simp
  rw [e1, e2] at h3
  exact h3
theorem sortedIn_list {α : Type} [Inhabited α] {lt : α → α → Bool} {d' : Array α} {n : Nat} (h : SortedIn lt 0 n d') (hn : d'.size = n) : d'.toList.Pairwise fun a b => lt b a = false := by
  rw [List.pairwise_iff_getElem]
  intro i j hi hj hij
  have hj' : j < d'.size := by simpa using hj
  have := h i j (Nat.zero_le _) hij (by omega)
  rw [getElem!_pos d' j hj', getElem!_pos d' i (by omega)] at this
  simpa using this

section
variable {P : Program} {W w : World} {F : List Chunk} {α : Type} [Inhabited α] {enc : α → List Value} {k : Nat}

theorem sort_heap {g m : Nat} {os : Array Obj} {cur : Array Value} {t : TypeId} {fr : Nat × Nat} (d : Array α) (hb : w.heap[g]? = some (.cells cur t fr)) :
    (sortWorldK enc k w g 0 m d os).heap[g]? = some (.cells (putCells id 0 (flatK enc k d) cur) t fr) := by
  have hg : g < w.heap.size := (Array.getElem?_eq_some_iff.1 hb).1
  unfold sortWorldK putRowK
  rw [Go.Sort.heap_grow_old _ _ (by simpa using hg)]
  simp [putRow, mapBlock, Sort.ahead, Array.getElem?_modify, hb, onCells]

theorem sort_grownBy {g m : Nat} {os : Array Obj} (d : Array α) : w.grownBy (sortWorldK enc k w g 0 m d os) (some g) := by
  unfold sortWorldK putRowK
  refine ⟨rfl, rfl, rfl, by simp, fun j hj hne => ?_⟩
  rw [Go.Sort.heap_grow_old _ _ (by simpa using hj)]
  have : g ≠ j := fun e => hne (by rw [e])
  simp [putRow, mapBlock, Sort.ahead, Array.getElem?_modify, this]

theorem sort_rep {g n c m : Nat} {t : TypeId} {os : Array Obj} {l : List α} (hk : ∀ x, (enc x).length = k) (h1 : ∀ x, ∀ v ∈ enc x, v.oneCell' = true) (hn : l.length = n) (hw : Rep W (.own (some ⟨g, 0, none⟩) n c t k (l.flatMap enc) :: F) w) (d' : Array α) (hd : d'.size = n) :
    Rep W (.own (some ⟨g, 0, none⟩) n c t k (d'.toList.flatMap enc) :: F) (sortWorldK enc k w g 0 m d' os) := by
  have ho := hw.holds _ mem0
  rcases ho.1.2 with ⟨hv, _⟩ | ⟨g', cap, cur, hv, hbb, hgb, hnc, hcm, hcs, htk⟩
  · cases hv
  · injection hv with hA _ hc
    injection hA with hA
    injection hA with hA _ _
    subst hA hc
    have hlen : (d'.toList.flatMap enc).length = n * k := by rw [flat_len hk]; simp [hd]
    have hle : n * k ≤ cur.size := by rw [hcs]; exact Nat.mul_le_mul_right k hnc
    refine hw.change (sort_grownBy d') (fun j e => by simp [Chunk.keys]; exact (Option.some.inj e).symm) ⟨⟨hlen, .inr ⟨g, c, _, rfl, hbb, sort_heap d' hgb, hnc, hcm, by simp [putCells, hcs], ?_⟩⟩, fun v hv => ?_⟩ (fun j hj => .inl (by simpa [Chunk.keys] using hj))
    · rw [← flatK_list hk d']
      apply List.ext_getElem?
      intro j
      have hsz : (flatK enc k d').size = n * k := by simp [hd]
      by_cases hj : j < n * k
      · rw [List.getElem?_take_of_lt hj, Array.getElem?_toList, Array.getElem?_toList]
        have hjc : j < cur.size := by omega
        have hjf : j < (flatK enc k d').size := by omega
        simp [putCells, hjc, hjf]
        rw [if_pos (by rw [hd]; exact hj), Array.getElem?_eq_getElem hjf, getElem!_pos _ j hjf]
      · rw [List.getElem?_take_eq_none (by omega), List.getElem?_eq_none (by simp [hd]; omega)]
    · obtain ⟨x, _, hx⟩ := List.mem_flatMap.1 hv
      exact h1 x v hx

theorem sort_holds {g n c : Nat} {t : TypeId} {l : List α} (hk : ∀ x, (enc x).length = k) (hn : l.length = n) (hw : Rep W (.own (some ⟨g, 0, none⟩) n c t k (l.flatMap enc) :: F) w) : HoldsK enc k w g 0 l.toArray ∧ g < w.heap.size := by
  have ho := hw.holds _ mem0
  rcases ho.1.2 with ⟨hv, _⟩ | ⟨g', cap, cur, hv, hbb, hgb, hnc, hcm, hcs, htk⟩
  · cases hv
  · injection hv with hA _ hc
    injection hA with hA
    injection hA with hA _ _
    subst hA hc
    refine ⟨fun j hj => ?_, (Array.getElem?_eq_some_iff.1 hgb).1⟩
    have hj' : j < n * k := by simpa [hn] using hj
    refine ⟨?_, by simp [World.frozen?, hgb]⟩
    have h2 : (flatK enc k l.toArray).toList = l.flatMap enc := by rw [flatK_list hk]
    have h3 : (cur.toList.take (n * k))[j]? = ((flatK enc k l.toArray).toList)[j]? := by rw [htk, h2]
    rw [List.getElem?_take_of_lt hj', Array.getElem?_toList, Array.getElem?_toList] at h3
    simp only [World.cell?, hgb, Nat.zero_add, Option.isSome_none, Bool.false_eq_true, if_false]
    rw [h3, Array.getElem?_eq_getElem hj, getElem!_pos _ j hj]
    rfl

/-- **slices.SortFunc**, of a row of the call's own -/
theorem sortFS {ρ : Ren} (L : SlLaysF0.n6 P ρ) (hf : FunOK P (ρ.f 6)) (aE : ∀ w, (isAgg (ρ.t 24)).run P w = .ok true w) (zE : ∀ w, (Go.sizeOf (ρ.t 24)).run P w = .ok k w) (hk : ∀ x, (enc x).length = k) (h1 : ∀ x, ∀ v ∈ enc x, v.oneCell' = true) (cf : α → α → Int) (hO : SWO (ltOf cf)) (g : Nat)
    (eg : ∀ args w, (callFunc g args).run P w = .ok (.enter g args) w) (hcmp : ∀ (x y : α) (W : World), Calls P g #[.agg (enc x).toArray, .agg (enc y).toArray] W fun e w' => e = .returned (.int .i64 (cf x y)) ∧ ∃ q os', w' = grow (W.drewN q) os')
    (A : Option Addr) (c : Nat) (t : TypeId) (l : List α) (hb : l.length ≤ 1000000) :
    FSpec P W (ρ.f 6) [.slice A l.length c, .func (.func g) #[] #[]] (.own A l.length c t k (l.flatMap enc) :: F) (fun v h' => v = .tuple #[] ∧ ∃ l' : List α, l'.Perm l ∧ l'.Pairwise (fun a b => ltOf cf b a = false) ∧ h' = .own A l'.length c t k (l'.flatMap enc) :: F) := by
  refine ⟨hf, fun w hw => ?_⟩
  cases l with
  | nil => exact (AnyF.slices_SortFunc_none L A c _ w).mono fun e w' ⟨he, hww⟩ => ⟨_, _, he, ⟨rfl, [], List.Perm.refl _, List.Pairwise.nil, rfl⟩, by rw [hww]; exact hw⟩
  | cons x0 l0 =>
    generalize hl : x0 :: l0 = l at *
    have hpos : 0 < l.length := by rw [← hl]; simp
    obtain ⟨g', hA⟩ := (hw.ownF mem0).at_ hpos
    subst hA
    obtain ⟨hH, hblk⟩ := sort_holds hk rfl hw
    have hlays : CmpLays P g #[] enc k cf g' 0 l.toArray.size w := fun m os dk _ x y => by simpa using hcmp x y _
    have hcon := AnyQ.slices_SortFunc L k aE zE enc hk h1 cf hO g #[] g' 0 c l.toArray w eg hlays hH hblk (by simp; omega)
    refine hcon.mono ?_
    rintro e w' ⟨rfl, d', n, os, hp, hs, rfl⟩
    have hd : d'.size = l.length := by have := hp.1; simpa using this
    refine ⟨_, _, rfl, ⟨rfl, d'.toList, by simpa using permIn_list hp, sortedIn_list hs (by simpa using hd), rfl⟩, ?_⟩
    have := sort_rep (m := n) (os := os) hk h1 rfl hw d' hd
    simpa [hd] using this
end
end Go.Sl

namespace Go.Proofs.Ytjcnaeengplcbaa
open Go.Shelf
def sortL_ren : Go.Shelf.Ren := ⟨fun | 6 => 70 | 15 => 75 | 14 => 74 | 28 => 86 | 29 => 87 | 20 => 78 | 21 => 79 | 22 => 80 | 23 => 81 | 24 => 82 | 25 => 83 | 26 => 84 | 27 => 85 | 46 => 89 | 47 => 90 | 48 => 91 | 49 => 92 | 50 => 93 | 57 => 94 | n => n, fun | 22 => 124 | 24 => 129 | 25 => 145 | 3 => 3 | 39 => 133 | 0 => 0 | 53 => 162 | 55 => 23 | 4 => 4 | 46 => 155 | 45 => 154 | 50 => 159 | 5 => 5 | 9 => 9 | 66 => 164 | 70 => 167 | 76 => 169 | 77 => 170 | n => n, fun | n => n⟩
theorem sortL : Go.Proofs.SlLaysF0.n6 Try.prog sortL_ren := {
  mixed := by kernel_rfl
  f6 := ⟨Try.f70.name, by decide, Try.func70.trans (congrArg some (by kernel_rfl))⟩
  f14 := ⟨Try.f74.name, by decide, Try.func74.trans (congrArg some (by kernel_rfl))⟩
  f15 := Try.func75.trans (congrArg some (by kernel_rfl))
  f20 := ⟨Try.f78.name, by decide, Try.func78.trans (congrArg some (by kernel_rfl))⟩
  f21 := ⟨Try.f79.name, by decide, Try.func79.trans (congrArg some (by kernel_rfl))⟩
  f22 := ⟨Try.f80.name, by decide, Try.func80.trans (congrArg some (by kernel_rfl))⟩
  f23 := ⟨Try.f81.name, by decide, Try.func81.trans (congrArg some (by kernel_rfl))⟩
  f24 := ⟨Try.f82.name, by decide, Try.func82.trans (congrArg some (by kernel_rfl))⟩
  f25 := ⟨Try.f83.name, by decide, Try.func83.trans (congrArg some (by kernel_rfl))⟩
  f26 := ⟨Try.f84.name, by decide, Try.func84.trans (congrArg some (by kernel_rfl))⟩
  f27 := ⟨Try.f85.name, by decide, Try.func85.trans (congrArg some (by kernel_rfl))⟩
  f28 := Try.func86.trans (congrArg some (by kernel_rfl))
  f29 := Try.func87.trans (congrArg some (by kernel_rfl))
  f46 := ⟨Try.f89.name, by decide, Try.func89.trans (congrArg some (by kernel_rfl))⟩
  f47 := Try.func90.trans (congrArg some (by kernel_rfl))
  f48 := Try.func91.trans (congrArg some (by kernel_rfl))
  f49 := ⟨Try.f92.name, by decide, Try.func92.trans (congrArg some (by kernel_rfl))⟩
  f50 := ⟨Try.f93.name, by decide, Try.func93.trans (congrArg some (by kernel_rfl))⟩
  f57 := ⟨Try.f94.name, by decide, Try.func94.trans (congrArg some (by kernel_rfl))⟩
  t0 := Try.underlying0
  a0 := Try.isAgg0
  z0 := Try.sizeOf0
  v0 := Try.zeroValue0
  t3 := Try.underlying3
  a3 := Try.isAgg3
  z3 := Try.sizeOf3
  v3 := Try.zeroValue3
  t4 := Try.underlying4
  a4 := Try.isAgg4
  z4 := Try.sizeOf4
  v4 := Try.zeroValue4
  t5 := Try.underlying5
  a5 := Try.isAgg5
  z5 := Try.sizeOf5
  v5 := Try.zeroValue5
  t9 := Try.underlying9
  a9 := Try.isAgg9
  z9 := Try.sizeOf9
  v9 := Try.zeroValue9
  t22 := Try.underlying124
  a22 := Try.isAgg124
  z22 := Try.sizeOf124
  v22 := Try.zeroValue124
  t25 := Try.underlying145
  a25 := Try.isAgg145
  z25 := Try.sizeOf145
  v25 := Try.zeroValue145
  t39 := Try.underlying133
  a39 := Try.isAgg133
  z39 := Try.sizeOf133
  v39 := Try.zeroValue133
  t45 := Try.underlying154
  a45 := Try.isAgg154
  z45 := Try.sizeOf154
  v45 := Try.zeroValue154
  t46 := Try.underlying155
  a46 := Try.isAgg155
  z46 := Try.sizeOf155
  v46 := Try.zeroValue155
  t50 := Try.underlying159
  a50 := Try.isAgg159
  z50 := Try.sizeOf159
  v50 := Try.zeroValue159
  t53 := Try.underlying162
  a53 := Try.isAgg162
  z53 := Try.sizeOf162
  v53 := Try.zeroValue162
  t55 := Try.underlying23
  a55 := Try.isAgg23
  z55 := Try.sizeOf23
  v55 := Try.zeroValue23
  t66 := Try.underlying164
  a66 := Try.isAgg164
  z66 := Try.sizeOf164
  v66 := Try.zeroValue164
  t70 := Try.underlying167
  a70 := Try.isAgg167
  z70 := Try.sizeOf167
  v70 := Try.zeroValue167
  t76 := Try.underlying169
  a76 := Try.isAgg169
  z76 := Try.sizeOf169
  v76 := Try.zeroValue169
  t77 := Try.underlying170
  a77 := Try.isAgg170
  z77 := Try.sizeOf170
  v77 := Try.zeroValue170 }
end Go.Proofs.Ytjcnaeengplcbaa

set_option linter.unusedSimpArgs false
set_option linter.unusedVariables false
namespace Go.Proofs.Ytjcnaeengplcbaa
open Go Go.Sl Go.RowKit Go.Sort

set_option maxHeartbeats 1000000 in
theorem betterK (s a b : Int) (W : World) : Calls Try.prog 76 #[.int .i64 s, .int .i64 a, .int .i64 b] W fun e w' => e = .returned (.bool (betterB s a b)) ∧ w' = W := by
  go_enter Try.func76, Try.ntmps76
  go_wp2
  all_goals
    go_ret
    refine ⟨?_, rfl⟩
    simp [betterB, *]

set_option maxHeartbeats 1000000 in
theorem isNaNK (x : Int) (W : World) : Calls Try.prog 88 #[.int .i64 x] W fun e w' => e = .returned (.bool false) ∧ w' = W := by
  go_enter Try.func88, Try.ntmps88
  go_wp2
  all_goals
    go_ret
    exact ⟨by simp, rfl⟩
set_option maxHeartbeats 1000000 in
theorem cmpK (x y : Int) (W : World) : Calls Try.prog 77 #[.int .i64 x, .int .i64 y] W fun e w' => e = .returned (.int .i64 (cmpI x y)) ∧ w' = W := by
  have h1 := fun z W => isNaNK z W
  go_enter Try.func77, Try.ntmps77
  go_wp2_with (go_at_call 88; refine (h1 _ _).mono ?_; rintro e w' ⟨rfl, rfl⟩)
  all_goals
    go_ret
    refine ⟨?_, rfl⟩
    simp [cmpI, *]
    try (split <;> (try split) <;> omega)
set_option maxHeartbeats 2000000 in
theorem orderK (a b : Order) (W : World) : Calls Try.prog 71 #[.agg a.enc.toArray, .agg b.enc.toArray] W fun e w' => e = .returned (.int .i64 (cfO a b)) ∧ ∃ q os', w' = grow (W.drewN q) os' := by
  obtain ⟨a0, a1, a2, a3, a4, a5⟩ := a
  obtain ⟨b0, b1, b2, b3, b4, b5⟩ := b
  have h1 := fun s x y W => betterK s x y W
  have h2 := fun x y W => cmpK x y W
  unfold cfO
  dsimp only [Order.enc]
  go_enter Try.func71, Try.ntmps71
  go_wp2_with (first | (go_at_call 76; refine (h1 _ _ _ _).mono ?_; rintro e w' ⟨rfl, rfl⟩) | (go_at_call 77; refine (h2 _ _ _).mono ?_; rintro e w' ⟨rfl, rfl⟩))
  all_goals
    go_ret
    refine ⟨?_, 0, _, by rw [alloc_eq_grow, alloc_eq_grow, grow_grow]; rfl⟩
    simp [*]
end Go.Proofs.Ytjcnaeengplcbaa

