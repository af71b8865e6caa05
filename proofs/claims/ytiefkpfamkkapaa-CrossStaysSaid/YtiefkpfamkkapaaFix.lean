/- Contracts of package fix and of the document's answer on numbers (consolsref1): products, sums, which is more. Conditions stand in each statement. -/
import Derived.Test.YtiefkpfamkkapaaSlJ
import Derived.Test.YtiefkpfamkkapaaMulK
import Derived.Test.YtiefkpfamkkapaaCmp
set_option linter.unusedSimpArgs false
set_option linter.unusedVariables false
namespace Go.Proofs.Ytiefkpfamkkapaa
open Go Go.Sl
attribute [local irreducible] AW ES EP Ld RetQ
set_option maxRecDepth 100000

/-- a number of 128 digits -/
def wideE (n : Nat) : List Value := [.int .u64 ((n / 18446744073709551616 : Nat) : Int), .int .u64 ((n % 18446744073709551616 : Nat) : Int)]
theorem wideE_len (n : Nat) : (wideE n).length = 2 := rfl
theorem wideE_one (n : Nat) : ∀ v ∈ wideE n, v.oneCell' = true := List.all_eq_true.1 (rfl : (wideE n).all Value.oneCell' = true)
theorem wideE_is {n : Nat} {x y : Int} (hx : x = ((n / 18446744073709551616 : Nat) : Int)) (hy : y = ((n % 18446744073709551616 : Nat) : Int)) : ([.int .u64 x, .int .u64 y] : List Value) = wideE n := by rw [hx, hy]; rfl
/-- a number, or none -/
def gotW (n : Option Nat) : Value := match n with
  | some n => .tuple #[.agg (wideE n).toArray, .bool true]
  | none => .tuple #[.agg (wideE 0).toArray, .bool false]

theorem add64run (x y : Nat) (w : World) : (callFunc 105 #[.int .u64 x, .int .u64 y, .int .u64 0]).run Try.prog w = .ok (.value (.tuple #[.int .u64 (((x + y) % 18446744073709551616 : Nat) : Int), .int .u64 (((x + y) / 18446744073709551616 : Nat) : Int)])) w := by
  rw [run_callFunc_extern Try.func105 (by kernel_rfl) (by kernel_rfl) (by kernel_rfl) (e := add64Entry) (by kernel_rfl), run_add64 x y 0 (by omega) (by omega) (by omega) (by omega)]
  simp only [Result.andThen]
  congr 5 <;> omega
theorem add64runC (x y c : Nat) (hc : c ≤ 1) (w : World) : (callFunc 105 #[.int .u64 x, .int .u64 y, .int .u64 c]).run Try.prog w = .ok (.value (.tuple #[.int .u64 (((x + y + c) % 18446744073709551616 : Nat) : Int), .int .u64 (((x + y + c) / 18446744073709551616 : Nat) : Int)])) w := by
  rw [run_callFunc_extern Try.func105 (by kernel_rfl) (by kernel_rfl) (by kernel_rfl) (e := add64Entry) (by kernel_rfl), run_add64 x y c (by omega) (by omega) (by omega) (by omega)]
  simp only [Result.andThen]
  congr 5 <;> omega

theorem fix_Times (W : World) (a b : Nat) (ha : a ≤ 9223372036854775807) (hb : b ≤ 9223372036854775807) :
    QSpec Try.prog W 85 [.int .i64 a, .int .i64 b] [] (gotW (some (a * b))) := by
  refine QSpec.ofD (fun h' hs => ?_)
  have hm := (mul64 W a b (by omega) (by omega))
  refine spec_body Try.func85 rfl rfl Try.results85 Try.ntmps85 rfl rfl ?_
  repeat' (first
    | apply aw_seq | apply aw_region | apply aw_ret | apply aw_skip | apply aw_exit | apply aw_block | apply es_nil
    | (apply es_pure hT; (iterate 4 exact rfl)) | (apply es_skip; (iterate 3 exact rfl)) | (apply es_skip0; (iterate 2 exact rfl))
    | (apply es_i64 hT; (iterate 4 exact rfl); (iterate 2 omega))
    | (apply aw_draw [] [] hmix; decide +kernel)
    | (apply es_alloc hT; (iterate 5 exact rfl); intro g4)
    | (apply es_u64 hT; (iterate 4 exact rfl); (iterate 2 omega))
    | (apply es_callQ (hs := (hm.mono (by simp))); (iterate 7 exact rfl))
    | (apply es_build hT; (iterate 4 exact rfl))
    | (apply es_store hT; (iterate 6 exact rfl); (repeat (first | exact sel0 | apply selS)); (iterate 3 exact rfl); exact Nat.le_of_ble_eq_true rfl)
    | (apply es_load; (iterate 5 exact rfl); first | (apply ld_blk hT; exact rfl; exact rfl; (repeat (first | exact List.mem_cons_self | apply List.mem_cons_of_mem)); exact rfl; exact rfl) | (apply ld_all hT; exact rfl; exact rfl; (repeat (first | exact List.mem_cons_self | apply List.mem_cons_of_mem)); exact rfl))
    | (apply es_box; (iterate 5 exact rfl); intro _) | (apply es_alloc hT; (iterate 5 exact rfl); intro _)
    | (apply aw_condT; (iterate 2 exact rfl)) | (apply aw_condF; (iterate 2 exact rfl))
    | (apply es_case; exact rfl; all_goals intro hb; all_goals (try simp only [hb]); all_goals (first | replace hb := of_decide_eq_true hb | replace hb := of_decide_eq_false hb | replace hb := bne_t hb | replace hb := bne_f hb | skip); all_goals (try (exfalso; omega)))
    | (apply aw_cond; exact rfl; all_goals intro hb; all_goals (try simp only [hb]); all_goals (first | replace hb := of_decide_eq_true hb | replace hb := of_decide_eq_false hb | replace hb := bne_t hb | replace hb := bne_f hb | skip); all_goals (try (exfalso; omega))))
  all_goals first
    | (exfalso; omega)
    | (apply ret2c; exact rfl; exact ld_all hT rfl rfl mem0 rfl; exact rfl; exact ⟨rfl, dt_skip dt_end⟩)
theorem fix_TimesNeg (W : World) (a b : Int) (hn : a < 0 ∨ b < 0) :
    QSpec Try.prog W 85 [.int .i64 a, .int .i64 b] [] (gotW none) := by
  refine QSpec.ofD (fun h' hs => ?_)
  refine spec_body Try.func85 rfl rfl Try.results85 Try.ntmps85 rfl rfl ?_
  repeat' (first
    | apply aw_seq | apply aw_region | apply aw_ret | apply aw_skip | apply aw_exit | apply aw_block | apply es_nil
    | (apply es_pure hT; (iterate 4 exact rfl)) | (apply es_skip; (iterate 3 exact rfl)) | (apply es_skip0; (iterate 2 exact rfl))
    | (apply es_i64 hT; (iterate 4 exact rfl); (iterate 2 omega))
    | (apply aw_draw [] [] hmix; decide +kernel)
    | (apply es_alloc hT; (iterate 5 exact rfl); intro g4)
    | (apply es_build hT; (iterate 4 exact rfl))
    | (apply es_store hT; (iterate 6 exact rfl); (repeat (first | exact sel0 | apply selS)); (iterate 3 exact rfl); exact Nat.le_of_ble_eq_true rfl)
    | (apply es_load; (iterate 5 exact rfl); first | (apply ld_blk hT; exact rfl; exact rfl; (repeat (first | exact List.mem_cons_self | apply List.mem_cons_of_mem)); exact rfl; exact rfl) | (apply ld_all hT; exact rfl; exact rfl; (repeat (first | exact List.mem_cons_self | apply List.mem_cons_of_mem)); exact rfl))
    | (apply es_box; (iterate 5 exact rfl); intro _) | (apply es_alloc hT; (iterate 5 exact rfl); intro _)
    | (apply aw_condT; (iterate 2 exact rfl)) | (apply aw_condF; (iterate 2 exact rfl))
    | (apply es_case; exact rfl; all_goals intro hb; all_goals (try simp only [hb]); all_goals (first | replace hb := of_decide_eq_true hb | replace hb := of_decide_eq_false hb | replace hb := bne_t hb | replace hb := bne_f hb | skip); all_goals (try (exfalso; omega)))
    | (apply aw_cond; exact rfl; all_goals intro hb; all_goals (try simp only [hb]); all_goals (first | replace hb := of_decide_eq_true hb | replace hb := of_decide_eq_false hb | replace hb := bne_t hb | replace hb := bne_f hb | skip); all_goals (try (exfalso; omega))))
  all_goals first
    | (exfalso; omega)
    | (apply ret2c; exact rfl; exact ld_all hT rfl rfl mem0 rfl; exact rfl; exact ⟨rfl, dt_skip dt_end⟩)

theorem fix_Plus (W : World) (m n : Nat) (hs : m + n < 340282366920938463463374607431768211456) :
    QSpec Try.prog W 86 [.agg (wideE m).toArray, .agg (wideE n).toArray] [] (gotW (some (m + n))) := by
  refine QSpec.ofD (fun h' _ => ?_)
  have h0 := add64run (m % 18446744073709551616) (n % 18446744073709551616)
  have h1 := add64runC (m / 18446744073709551616) (n / 18446744073709551616) ((m % 18446744073709551616 + n % 18446744073709551616) / 18446744073709551616) (by omega)
  have hov : decide ((((m / 18446744073709551616 + n / 18446744073709551616 + (m % 18446744073709551616 + n % 18446744073709551616) / 18446744073709551616) / 18446744073709551616 : Nat) : Int) > 0) = false := by simp; omega
  refine spec_body Try.func86 rfl rfl Try.results86 Try.ntmps86 rfl rfl ?_
  repeat' (first
    | apply aw_seq | apply aw_region | apply aw_ret | apply aw_skip | apply aw_exit | apply aw_block | apply es_nil
    | (apply es_pure hT; (iterate 4 exact rfl)) | (apply es_skip; (iterate 3 exact rfl)) | (apply es_skip0; (iterate 2 exact rfl))
    | (apply es_i64 hT; (iterate 4 exact rfl); (iterate 2 omega))
    | (apply aw_draw [] [] hmix; decide +kernel)
    | (apply es_alloc hT; (iterate 5 exact rfl); intro g4)
    | (apply es_extern; (iterate 6 exact rfl); first | (intro w _; exact h0 w) | (intro w _; exact h1 w))
    | (apply es_build hT; (iterate 4 exact rfl))
    | (apply es_store hT; (iterate 6 exact rfl); (repeat (first | exact sel0 | apply selS)); (iterate 3 exact rfl); exact Nat.le_of_ble_eq_true rfl)
    | (apply es_load; (iterate 5 exact rfl); first | (apply ld_blk hT; exact rfl; exact rfl; (repeat (first | exact List.mem_cons_self | apply List.mem_cons_of_mem)); exact rfl; exact rfl) | (apply ld_all hT; exact rfl; exact rfl; (repeat (first | exact List.mem_cons_self | apply List.mem_cons_of_mem)); exact rfl))
    | (apply es_box; (iterate 5 exact rfl); intro _) | (apply es_alloc hT; (iterate 5 exact rfl); intro _)
    | (apply aw_condT; (iterate 2 exact rfl)) | (apply aw_condF; (iterate 2 exact rfl))
    | (apply es_case; exact rfl; all_goals intro hb; all_goals (try simp only [hb]); all_goals (first | replace hb := of_decide_eq_true hb | replace hb := of_decide_eq_false hb | replace hb := bne_t hb | replace hb := bne_f hb | skip); all_goals (try (exfalso; omega)))
    | (apply aw_cond; exact rfl; all_goals intro hb; all_goals (try simp only [hb]); all_goals (first | replace hb := of_decide_eq_true hb | replace hb := of_decide_eq_false hb | replace hb := bne_t hb | replace hb := bne_f hb | skip); all_goals (try (exfalso; omega))))
  all_goals first
    | (exfalso; omega)
    | (apply ret2c; exact rfl; exact ld_all hT rfl rfl mem0 rfl; exact rfl
       refine ⟨?_, by (repeat (first | exact dt_end | apply dt_skip))⟩
       show Value.tuple #[.agg (List.toArray [.int .u64 _, .int .u64 _]), .bool true] = _
       rw [gotW, wideE_is (n := m + n) (by omega) (by omega)])

theorem isNaNu (W : World) (x : Int) : QSpec Try.prog W 122 [.int .u64 x] [] (.bool false) := by
  refine QSpec.of (fun h' hs => ?_)
  refine spec_body Try.func122 rfl rfl Try.results122 Try.ntmps122 rfl rfl ?_
  repeat' (first
    | apply aw_seq | apply aw_region | apply aw_ret | apply aw_skip | apply aw_exit | apply aw_block | apply es_nil
    | (apply es_pure hT; (iterate 4 exact rfl)) | (apply es_skip; (iterate 3 exact rfl)) | (apply es_skip0; (iterate 2 exact rfl))
    | (apply es_i64 hT; (iterate 4 exact rfl); (iterate 2 omega))
    | (apply aw_draw [] [] hmix; decide +kernel)
    | (apply es_load; (iterate 5 exact rfl); first | (apply ld_blk hT; exact rfl; exact rfl; (repeat (first | exact List.mem_cons_self | apply List.mem_cons_of_mem)); exact rfl; exact rfl) | (apply ld_all hT; exact rfl; exact rfl; (repeat (first | exact List.mem_cons_self | apply List.mem_cons_of_mem)); exact rfl))
    | (apply es_box; (iterate 5 exact rfl); intro _) | (apply es_alloc hT; (iterate 5 exact rfl); intro _)
    | (apply aw_condT; (iterate 2 exact rfl)) | (apply aw_condF; (iterate 2 exact rfl))
    | (apply es_case; exact rfl; all_goals intro hb; all_goals (try simp only [hb]); all_goals (first | replace hb := of_decide_eq_true hb | replace hb := of_decide_eq_false hb | replace hb := bne_t hb | replace hb := bne_f hb | skip); all_goals (try (exfalso; omega)))
    | (apply aw_cond; exact rfl; all_goals intro hb; all_goals (try simp only [hb]); all_goals (first | replace hb := of_decide_eq_true hb | replace hb := of_decide_eq_false hb | replace hb := bne_t hb | replace hb := bne_f hb | skip); all_goals (try (exfalso; omega))))
  exact retQ1 (J := []) rfl (by simp) (List.Perm.refl _)
theorem cmpu (W : World) (x y : Int) : QSpec Try.prog W 107 [.int .u64 x, .int .u64 y] [] (.int .i64 (cmpI x y)) := by
  refine QSpec.of (fun h' hs => ?_)
  refine spec_body Try.func107 rfl rfl Try.results107 Try.ntmps107 rfl rfl ?_
  repeat' (first
    | apply aw_seq | apply aw_region | apply aw_ret | apply aw_skip | apply aw_exit | apply aw_block | apply es_nil
    | (apply es_pure hT; (iterate 4 exact rfl)) | (apply es_skip; (iterate 3 exact rfl)) | (apply es_skip0; (iterate 2 exact rfl))
    | (apply es_i64 hT; (iterate 4 exact rfl); (iterate 2 omega))
    | (apply aw_draw [] [] hmix; decide +kernel)
    | (apply es_callQ (hs := ((isNaNu W _).mono (by simp))); (iterate 7 exact rfl))
    | (apply es_load; (iterate 5 exact rfl); first | (apply ld_blk hT; exact rfl; exact rfl; (repeat (first | exact List.mem_cons_self | apply List.mem_cons_of_mem)); exact rfl; exact rfl) | (apply ld_all hT; exact rfl; exact rfl; (repeat (first | exact List.mem_cons_self | apply List.mem_cons_of_mem)); exact rfl))
    | (apply es_box; (iterate 5 exact rfl); intro _) | (apply es_alloc hT; (iterate 5 exact rfl); intro _)
    | (apply aw_condT; (iterate 2 exact rfl)) | (apply aw_condF; (iterate 2 exact rfl))
    | (apply es_case; exact rfl; all_goals intro hb; all_goals (try simp only [hb]); all_goals (first | replace hb := of_decide_eq_true hb | replace hb := of_decide_eq_false hb | replace hb := bne_t hb | replace hb := bne_f hb | skip); all_goals (try (exfalso; omega)))
    | (apply aw_cond; exact rfl; all_goals intro hb; all_goals (try simp only [hb]); all_goals (first | replace hb := of_decide_eq_true hb | replace hb := of_decide_eq_false hb | replace hb := bne_t hb | replace hb := bne_f hb | skip); all_goals (try (exfalso; omega))))
  · exact retQ1 (J := []) rfl (by simp [cmpI, hb]) (List.Perm.refl _)
  · rename_i h1; exact retQ1 (J := []) rfl (by simp [cmpI]; omega) (List.Perm.refl _)
  · rename_i h1; exact retQ1 (J := []) rfl (by simp [cmpI]; omega) (List.Perm.refl _)

/-- which number is more -/
def cmpW (m n : Nat) : Int := if m < n then -1 else if n < m then 1 else 0
theorem cmpW_or (m n : Nat) : orI [cmpI ((m / 18446744073709551616 : Nat) : Int) ((n / 18446744073709551616 : Nat) : Int), cmpI ((m % 18446744073709551616 : Nat) : Int) ((n % 18446744073709551616 : Nat) : Int)] = cmpW m n := by
  unfold cmpW cmpI
  simp only [orI]
  split <;> (try split) <;> (try split) <;> (try split) <;> (try split) <;> (try split) <;> (try split) <;> omega
theorem fix_Cmp (W : World) (m n : Nat) : QSpec Try.prog W 89 [.agg (wideE m).toArray, .agg (wideE n).toArray] [] (.int .i64 (cmpW m n)) := by
  refine QSpec.ofD (fun h' hs => ?_)
  rw [← cmpW_or]
  have hor : ∀ h g (x y : Int), Chunk.own (some ⟨g, 0, none⟩) 2 2 3 1 [.int .i64 x, .int .i64 y] ∈ h → QSpec Try.prog W 106 [.slice (some ⟨g, 0, none⟩) 2 2] h (.int .i64 (orI [x, y])) := fun h g x y hm =>
    cmpOr W h _ 2 2 [x, y] rfl (Reads.own hm rfl (List.all_eq_true.1 (rfl : ([.int .i64 x, .int .i64 y] : List Value).all Value.oneCell' = true))) (by omega)
  refine spec_body Try.func89 rfl rfl Try.results89 Try.ntmps89 rfl rfl ?_
  repeat' (first
    | apply aw_seq | apply aw_region | apply aw_ret | apply aw_skip | apply aw_exit | apply aw_block | apply es_nil
    | (apply es_pure hT; (iterate 4 exact rfl)) | (apply es_skip; (iterate 3 exact rfl)) | (apply es_skip0; (iterate 2 exact rfl))
    | (apply es_i64 hT; (iterate 4 exact rfl); (iterate 2 omega))
    | (apply aw_draw [107] [] hmix; decide +kernel)
    | (apply es_callQ (hs := ((cmpu W _ _).mono (by simp))); (iterate 7 exact rfl))
    | (apply es_buildSlice hT; (iterate 12 exact rfl); intro g)
    | (apply es_callQ (hs := (hor _ _ _ _ mem0)); (iterate 7 exact rfl))
    | (apply es_load; (iterate 5 exact rfl); first | (apply ld_blk hT; exact rfl; exact rfl; (repeat (first | exact List.mem_cons_self | apply List.mem_cons_of_mem)); exact rfl; exact rfl) | (apply ld_all hT; exact rfl; exact rfl; (repeat (first | exact List.mem_cons_self | apply List.mem_cons_of_mem)); exact rfl))
    | (apply es_box; (iterate 5 exact rfl); intro _) | (apply es_alloc hT; (iterate 5 exact rfl); intro _)
    | (apply aw_condT; (iterate 2 exact rfl)) | (apply aw_condF; (iterate 2 exact rfl))
    | (apply es_case; exact rfl; all_goals intro hb; all_goals (try simp only [hb]); all_goals (first | replace hb := of_decide_eq_true hb | replace hb := of_decide_eq_false hb | replace hb := bne_t hb | replace hb := bne_f hb | skip); all_goals (try (exfalso; omega)))
    | (apply aw_cond; exact rfl; all_goals intro hb; all_goals (try simp only [hb]); all_goals (first | replace hb := of_decide_eq_true hb | replace hb := of_decide_eq_false hb | replace hb := bne_t hb | replace hb := bne_f hb | skip); all_goals (try (exfalso; omega))))
  apply ret1; exact rfl
  exact ⟨rfl, by (repeat (first | exact dt_end | apply dt_skip))⟩

theorem ref1_Plus (W : World) (m n : Nat) (hs : m + n < 340282366920938463463374607431768211456) :
    QSpec Try.prog W 49 [.agg (wideE m).toArray, .agg (wideE n).toArray] [] (gotW (some (m + n))) := by
  refine QSpec.ofD (fun h' _ => ?_)
  refine spec_body Try.func49 rfl rfl Try.results49 Try.ntmps49 rfl rfl ?_
  repeat' (first
    | apply aw_seq | apply aw_region | apply aw_ret | apply aw_skip | apply aw_exit | apply aw_block | apply es_nil
    | (apply es_pure hT; (iterate 4 exact rfl)) | (apply es_skip; (iterate 3 exact rfl)) | (apply es_skip0; (iterate 2 exact rfl))
    | (apply es_i64 hT; (iterate 4 exact rfl); (iterate 2 omega))
    | (apply aw_draw [] [] hmix; decide +kernel)
    | (apply es_alloc hT; (iterate 5 exact rfl); intro g4)
    | (apply es_u64r hT; (iterate 4 exact rfl))
    | (apply es_build hT; (iterate 4 exact rfl))
    | (apply es_store hT; (iterate 6 exact rfl); (repeat (first | exact sel0 | apply selS)); (iterate 3 exact rfl); exact Nat.le_of_ble_eq_true rfl)
    | (apply es_load; (iterate 5 exact rfl); first | (apply ld_blk hT; exact rfl; exact rfl; (repeat (first | exact List.mem_cons_self | apply List.mem_cons_of_mem)); exact rfl; exact rfl) | (apply ld_all hT; exact rfl; exact rfl; (repeat (first | exact List.mem_cons_self | apply List.mem_cons_of_mem)); exact rfl))
    | (apply es_box; (iterate 5 exact rfl); intro _) | (apply es_alloc hT; (iterate 5 exact rfl); intro _)
    | (apply aw_condT; (iterate 2 exact rfl)) | (apply aw_condF; (iterate 2 exact rfl))
    | (apply es_case; exact rfl; all_goals intro hb; all_goals (try simp only [hb]); all_goals (first | replace hb := of_decide_eq_true hb | replace hb := of_decide_eq_false hb | replace hb := bne_t hb | replace hb := bne_f hb | skip); all_goals (try (exfalso; omega)))
    | (apply aw_cond; exact rfl; all_goals intro hb; all_goals (try simp only [hb]); all_goals (first | replace hb := of_decide_eq_true hb | replace hb := of_decide_eq_false hb | replace hb := bne_t hb | replace hb := bne_f hb | skip); all_goals (try (exfalso; omega))))
  all_goals first
    | (exfalso; omega)
    | (apply ret2c; exact rfl; exact ld_all hT rfl rfl mem0 rfl; exact rfl
       refine ⟨?_, by (repeat (first | exact dt_end | apply dt_skip))⟩
       show Value.tuple #[.agg (List.toArray [.int .u64 _, .int .u64 _]), .bool true] = _
       rw [gotW, wideE_is (n := m + n) (by omega) (by omega)])

theorem ref1_Cmp (W : World) (m n : Nat) : QSpec Try.prog W 47 [.agg (wideE m).toArray, .agg (wideE n).toArray] [] (.int .i64 (cmpW m n)) := by
  refine QSpec.ofD (fun h' hs => ?_)
  have sOKWide : structOK Try.prog 58 := ⟨by kernel_rfl, by kernel_rfl⟩
  have heq : eqSt TT 58 (wideE m).toArray (wideE n).toArray = some (decide (m = n)) := by
    have h : eqSt TT 58 (wideE m).toArray (wideE n).toArray = some ((((m / 18446744073709551616 : Nat) : Int) == ((n / 18446744073709551616 : Nat) : Int)) && ((((m % 18446744073709551616 : Nat) : Int) == ((n % 18446744073709551616 : Nat) : Int)) && true)) := rfl
    rw [h]
    congr 1
    rw [Bool.eq_iff_iff]
    simp
    omega
  refine spec_body Try.func47 rfl rfl Try.results47 Try.ntmps47 rfl rfl ?_
  repeat' (first
    | apply aw_seq | apply aw_region | apply aw_ret | apply aw_skip | apply aw_exit | apply aw_block | apply es_nil
    | (apply es_pure hT; (iterate 4 exact rfl)) | (apply es_skip; (iterate 3 exact rfl)) | (apply es_skip0; (iterate 2 exact rfl))
    | (apply es_i64 hT; (iterate 4 exact rfl); (iterate 2 omega))
    | (apply aw_draw [] [] hmix; decide +kernel)
    | (apply es_eqS hT; (iterate 5 exact rfl); exact heq; exact sOKWide)
    | (apply es_load; (iterate 5 exact rfl); first | (apply ld_blk hT; exact rfl; exact rfl; (repeat (first | exact List.mem_cons_self | apply List.mem_cons_of_mem)); exact rfl; exact rfl) | (apply ld_all hT; exact rfl; exact rfl; (repeat (first | exact List.mem_cons_self | apply List.mem_cons_of_mem)); exact rfl))
    | (apply es_box; (iterate 5 exact rfl); intro _) | (apply es_alloc hT; (iterate 5 exact rfl); intro _)
    | (apply aw_condT; (iterate 2 exact rfl)) | (apply aw_condF; (iterate 2 exact rfl))
    | (apply es_case; exact rfl; all_goals intro hb; all_goals (try simp only [hb]); all_goals (first | replace hb := of_decide_eq_true hb | replace hb := of_decide_eq_false hb | replace hb := bne_t hb | replace hb := bne_f hb | skip); all_goals (try (exfalso; omega)))
    | (apply aw_cond; exact rfl; all_goals intro hb; all_goals (try simp only [hb]); all_goals (first | replace hb := of_decide_eq_true hb | replace hb := of_decide_eq_false hb | replace hb := bne_t hb | replace hb := bne_f hb | skip); all_goals (try (exfalso; omega))))
  all_goals first
    | (exfalso; omega)
    | (apply ret1; exact rfl
       refine ⟨?_, by (repeat (first | exact dt_end | apply dt_skip))⟩
       congr 1
       unfold cmpW
       split <;> (try split) <;> first | rfl | (exfalso; simp_all; done) | (exfalso; simp_all; omega))

theorem div2 (a j : Nat) : a / 2 ^ j = 2 * (a / 2 ^ (j + 1)) + (a / 2 ^ j) % 2 := by
  have : a / 2 ^ (j + 1) = a / 2 ^ j / 2 := by rw [Nat.pow_succ, Nat.div_div_eq_div_mul]
  omega
set_option maxHeartbeats 1000000 in
theorem ref1_Times (W : World) (a b : Nat) (ha : a ≤ 9223372036854775807) (hb : b ≤ 9223372036854775807) :
    QSpec Try.prog W 48 [.int .i64 a, .int .i64 b] [] (gotW (some (a * b))) := by
  refine QSpec.ofD (fun h' hs => ?_)
  have hle : ∀ j, (a / 2 ^ j) * b ≤ 85070591730234615847396907784232501249 := fun j => Nat.mul_le_mul (Nat.le_trans (Nat.div_le_self _ _) ha) hb
  refine spec_body Try.func48 rfl rfl Try.results48 Try.ntmps48 rfl rfl ?_
  repeat' (first
    | apply aw_seq | apply aw_region | apply aw_ret | apply aw_skip | apply aw_exit | apply aw_block | apply es_nil
    | (apply es_pure hT; (iterate 4 exact rfl)) | (apply es_skip; (iterate 3 exact rfl)) | (apply es_skip0; (iterate 2 exact rfl))
    | (apply es_i64 hT; (iterate 4 exact rfl); (iterate 2 omega))
    | (apply aw_draw [] [] hmix; decide +kernel)
    | (apply es_alloc hT; (iterate 5 exact rfl); intro g4)
    | (apply es_build hT; (iterate 4 exact rfl))
    | (apply es_store hT; (iterate 6 exact rfl); (repeat (first | exact sel0 | apply selS)); (iterate 3 exact rfl); exact Nat.le_of_ble_eq_true rfl)
    | (apply es_load; (iterate 5 exact rfl); first | (apply ld_blk hT; exact rfl; exact rfl; (repeat (first | exact List.mem_cons_self | apply List.mem_cons_of_mem)); exact rfl; exact rfl) | (apply ld_all hT; exact rfl; exact rfl; (repeat (first | exact List.mem_cons_self | apply List.mem_cons_of_mem)); exact rfl))
    | (apply es_box; (iterate 5 exact rfl); intro _) | (apply es_alloc hT; (iterate 5 exact rfl); intro _)
    | (apply aw_condT; (iterate 2 exact rfl)) | (apply aw_condF; (iterate 2 exact rfl))
    | (apply es_case; exact rfl; all_goals intro hb; all_goals (try simp only [hb]); all_goals (first | replace hb := of_decide_eq_true hb | replace hb := of_decide_eq_false hb | replace hb := bne_t hb | replace hb := bne_f hb | skip); all_goals (try (exfalso; omega)))
    | (apply aw_cond; exact rfl; all_goals intro hb; all_goals (try simp only [hb]); all_goals (first | replace hb := of_decide_eq_true hb | replace hb := of_decide_eq_false hb | replace hb := bne_t hb | replace hb := bne_f hb | skip); all_goals (try (exfalso; omega))))
  all_goals try (exfalso; omega)
  rename_i g6
  refine aw_loop (α := Nat) (E := fun j => [(0, .int .i64 a), (1, .int .i64 b), (4, .pointer (some ⟨g6, 0, none⟩)), (6, .pointer (some ⟨g4, 0, none⟩)), (7, .int .i64 ((j : Int) - 1))])
    (H := fun j => .blk g4 58 (wideE ((a / 2 ^ j) * b)) :: .blk g6 58 (wideE 0) :: h') (μ := fun j => j)
    (S := fun j => j ≤ 63) 63 (J := []) (Nat.le_refl _) ⟨rfl, rfl, rfl, rfl, rfl, trivial⟩ ?_ ?_
  · have e : a / 2 ^ 63 = 0 := Nat.div_eq_of_lt (by omega)
    rw [e, Nat.zero_mul]
    exact List.Perm.refl _
  · intro j hj
    cases j with
    | zero =>
      have hd1 : decide (((0 : Nat) : Int) - 1 ≥ 0) = false := by decide
      rw [Nat.pow_zero, Nat.div_one]
      repeat' (first
        | apply aw_seq | apply aw_region | apply aw_ret | apply aw_skip | apply aw_exit | apply aw_block | apply es_nil
        | (apply es_pure hT; (iterate 4 exact rfl)) | (apply es_skip; (iterate 3 exact rfl)) | (apply es_skip0; (iterate 2 exact rfl))
        | (apply es_i64 hT; (iterate 4 exact rfl); (iterate 2 omega))
        | (apply aw_draw [] [] hmix; decide +kernel)
        | (apply es_store hT; (iterate 6 exact rfl); (repeat (first | exact sel0 | apply selS)); (iterate 3 exact rfl); exact Nat.le_of_ble_eq_true rfl)
        | (apply es_load; (iterate 5 exact rfl); first | (apply ld_blk hT; exact rfl; exact rfl; (repeat (first | exact List.mem_cons_self | apply List.mem_cons_of_mem)); exact rfl; exact rfl) | (apply ld_all hT; exact rfl; exact rfl; (repeat (first | exact List.mem_cons_self | apply List.mem_cons_of_mem)); exact rfl))
        | (apply es_box; (iterate 5 exact rfl); intro _) | (apply es_alloc hT; (iterate 5 exact rfl); intro _)
        | (apply aw_condT; (iterate 2 exact rfl)) | (apply aw_condF; (iterate 2 exact rfl))
        | (apply es_case; exact rfl; all_goals intro hb; all_goals (try simp only [hb]); all_goals (first | replace hb := of_decide_eq_true hb | replace hb := of_decide_eq_false hb | replace hb := bne_t hb | replace hb := bne_f hb | skip); all_goals (try (exfalso; omega)))
        | (apply aw_cond; exact rfl; all_goals intro hb; all_goals (try simp only [hb]); all_goals (first | replace hb := of_decide_eq_true hb | replace hb := of_decide_eq_false hb | replace hb := bne_t hb | replace hb := bne_f hb | skip); all_goals (try (exfalso; omega))))
      all_goals first
        | (exfalso; omega)
        | (apply ret2c; exact rfl; exact ld_all hT rfl rfl mem1 rfl; exact rfl
           exact ⟨rfl, by (repeat (first | exact dt_end | apply dt_skip))⟩)
        | (apply ret2c; exact rfl; exact ld_all hT rfl rfl mem0 rfl; exact rfl
           exact ⟨rfl, by (repeat (first | exact dt_end | apply dt_skip))⟩)
    | succ k =>
      have e : ((k + 1 : Nat) : Int) - 1 = k := by omega
      rw [e]
      have hl1 := hle (k + 1)
      have hl0 := hle k
      have hdv := div2 a k
      have hd0 : (a : Int) / ((2 ^ k : Nat) : Int) = ((a / 2 ^ k : Nat) : Int) := (Int.natCast_ediv a (2 ^ k)).symm
      have hka : a / 2 ^ k ≤ a := Nat.div_le_self _ _
      have hstep : (a / 2 ^ k) * b = (a / 2 ^ (k + 1)) * b + (a / 2 ^ (k + 1)) * b + (a / 2 ^ k % 2) * b := by
        conv => lhs; rw [hdv]
        rw [Nat.add_mul, Nat.mul_assoc, Nat.two_mul]
      generalize hq : a / 2 ^ k = q at hd0 hka hstep hl0 hdv ⊢
      generalize (a / 2 ^ (k + 1)) * b = v at hl1 hstep ⊢
      have hp1 := ref1_Plus W v v (by omega)
      have hp2 : QSpec Try.prog W 49 [.agg (wideE (v + v)).toArray, .agg #[.int .u64 0, .int .u64 b]] [] (gotW (some (v + v + b))) := by
        have := ref1_Plus W (v + v) b (by omega)
        rw [← wideE_is (n := b) (x := 0) (y := b) (by omega) (by omega)] at this
        exact this
      repeat' (first
        | apply aw_seq | apply aw_region | apply aw_ret | apply aw_skip | apply aw_exit | apply aw_block | apply es_nil
        | (apply es_pure hT; (iterate 4 exact rfl)) | (apply es_skip; (iterate 3 exact rfl)) | (apply es_skip0; (iterate 2 exact rfl))
        | (apply es_i64 hT; (iterate 4 exact rfl); (iterate 2 omega))
        | (apply aw_draw [] [] hmix; decide +kernel)
        | (apply es_callQ (hs := (hp1.mono (by simp))); (iterate 7 exact rfl))
        | (apply es_callQ (hs := (hp2.mono (by simp))); (iterate 7 exact rfl))
        | (apply es_u64 hT; (iterate 4 exact rfl); (iterate 2 omega))
        | (apply es_shr; (iterate 6 exact rfl); omega; rw [hd0])
        | (apply es_bit; (iterate 5 exact rfl); (iterate 2 omega))
        | (apply es_build hT; (iterate 4 exact rfl))
        | (apply es_store hT; (iterate 6 exact rfl); (repeat (first | exact sel0 | apply selS)); (iterate 3 exact rfl); exact Nat.le_of_ble_eq_true rfl)
        | (apply es_load; (iterate 5 exact rfl); first | (apply ld_blk hT; exact rfl; exact rfl; (repeat (first | exact List.mem_cons_self | apply List.mem_cons_of_mem)); exact rfl; exact rfl) | (apply ld_all hT; exact rfl; exact rfl; (repeat (first | exact List.mem_cons_self | apply List.mem_cons_of_mem)); exact rfl))
        | (apply es_box; (iterate 5 exact rfl); intro _) | (apply es_alloc hT; (iterate 5 exact rfl); intro _)
        | (apply aw_condT; (iterate 2 exact rfl)) | (apply aw_condF; (iterate 2 exact rfl))
        | (apply es_case; exact rfl; all_goals intro hb; all_goals (try simp only [hb]); all_goals (first | replace hb := of_decide_eq_true hb | replace hb := of_decide_eq_false hb | replace hb := bne_t hb | replace hb := bne_f hb | skip); all_goals (try (exfalso; omega)))
        | (apply aw_cond; exact rfl; all_goals intro hb; all_goals (try simp only [hb]); all_goals (first | replace hb := of_decide_eq_true hb | replace hb := of_decide_eq_false hb | replace hb := bne_t hb | replace hb := bne_f hb | skip); all_goals (try (exfalso; omega))))
      all_goals first
        | (exfalso; omega)
        | (refine loopq_end k (by (try dsimp only); omega) (by (try dsimp only); omega) ⟨rfl, rfl, rfl, rfl, rfl, trivial⟩ ?_
           have hs2 : (a / 2 ^ k) * b = v + v + b := by rw [hq, hstep, show q % 2 = 1 by omega, Nat.one_mul]
           (try dsimp only)
           rw [hs2]
           exact dt_end)
        | (refine loopq_end k (by (try dsimp only); omega) (by (try dsimp only); omega) ⟨rfl, rfl, rfl, rfl, rfl, trivial⟩ ?_
           have hs2 : (a / 2 ^ k) * b = v + v := by rw [hq, hstep, show q % 2 = 0 by omega, Nat.zero_mul, Nat.add_zero]
           (try dsimp only)
           rw [hs2]
           exact dt_end)
        | skip
theorem ref1_TimesNeg (W : World) (a b : Int) (hn : a < 0 ∨ b < 0) :
    QSpec Try.prog W 48 [.int .i64 a, .int .i64 b] [] (gotW none) := by
  refine QSpec.ofD (fun h' hs => ?_)
  refine spec_body Try.func48 rfl rfl Try.results48 Try.ntmps48 rfl rfl ?_
  repeat' (first
    | apply aw_seq | apply aw_region | apply aw_ret | apply aw_skip | apply aw_exit | apply aw_block | apply es_nil
    | (apply es_pure hT; (iterate 4 exact rfl)) | (apply es_skip; (iterate 3 exact rfl)) | (apply es_skip0; (iterate 2 exact rfl))
    | (apply es_i64 hT; (iterate 4 exact rfl); (iterate 2 omega))
    | (apply aw_draw [] [] hmix; decide +kernel)
    | (apply es_alloc hT; (iterate 5 exact rfl); intro g4)
    | (apply es_build hT; (iterate 4 exact rfl))
    | (apply es_store hT; (iterate 6 exact rfl); (repeat (first | exact sel0 | apply selS)); (iterate 3 exact rfl); exact Nat.le_of_ble_eq_true rfl)
    | (apply es_load; (iterate 5 exact rfl); first | (apply ld_blk hT; exact rfl; exact rfl; (repeat (first | exact List.mem_cons_self | apply List.mem_cons_of_mem)); exact rfl; exact rfl) | (apply ld_all hT; exact rfl; exact rfl; (repeat (first | exact List.mem_cons_self | apply List.mem_cons_of_mem)); exact rfl))
    | (apply es_box; (iterate 5 exact rfl); intro _) | (apply es_alloc hT; (iterate 5 exact rfl); intro _)
    | (apply aw_condT; (iterate 2 exact rfl)) | (apply aw_condF; (iterate 2 exact rfl))
    | (apply es_case; exact rfl; all_goals intro hb; all_goals (try simp only [hb]); all_goals (first | replace hb := of_decide_eq_true hb | replace hb := of_decide_eq_false hb | replace hb := bne_t hb | replace hb := bne_f hb | skip); all_goals (try (exfalso; omega)))
    | (apply aw_cond; exact rfl; all_goals intro hb; all_goals (try simp only [hb]); all_goals (first | replace hb := of_decide_eq_true hb | replace hb := of_decide_eq_false hb | replace hb := bne_t hb | replace hb := bne_f hb | skip); all_goals (try (exfalso; omega))))
  all_goals first
    | (exfalso; omega)
    | (apply ret2c; exact rfl; exact ld_all hT rfl rfl mem0 rfl; exact rfl; exact ⟨rfl, dt_skip dt_end⟩)
    | skip
end Go.Proofs.Ytiefkpfamkkapaa
