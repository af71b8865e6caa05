/- The statement's walk, and what it stands on, joined into few texts: part 4. Conditions stand in each statement. -/
import Derived.Maps.AppendAt
import Derived.Laws.CopyOwn
import Derived.Laws.MakeOwn
import Derived.Laws.StructEq
import Derived.Deep.Quiet
import Derived.Below
import Derived.Tactics
import Derived.IntWalk
import Derived.Lib.Overlaps
import Derived.Test.YtjcnaeengplcbaaGreatRows
import Derived.OpenShut
import Derived.ChangeSame
import Derived.ProofKit
import Derived.WideKeyArgs
import Derived.Deep.Slices
import Derived.Deep.Fields
import Derived.Test.YtjcnaeengplcbaaGreatChecked
import Derived.KernelRfl
import Derived.MapKept
import Derived.Shelf.SlSortCmp.NoneTotal
import Derived.Ground.SlsfProg
import Derived.WalkKit
import Derived.Sort.Grow
import Derived.Lib.Mul64
import Derived.Laws.Bits64b
import Derived.Test.YtjcnaeengplcbaaGreatBndBooks3
set_option linter.unusedSimpArgs false
set_option linter.unusedVariables false
namespace Go.Proofs.YtjcnaeengplcbaaGreat
open Go Go.Sl
attribute [local irreducible] AW ES EP Ld RetQ
set_option maxRecDepth 100000

theorem blockq_n {id : Nat} {Q : Exit → Env → List Chunk → Prop} {env : Env} {h : List Chunk} (hq : Q .normal env h) : BlockQ id Q .normal env h := hq
theorem tw_eq {α : Type} {p : α → Bool} : ∀ {l : List α} {i : Nat}, i ≤ l.length → (∀ (k : Nat) y, k < i → l[k]? = some y → p y = true) → (∀ y, l[i]? = some y → p y = false) → (l.takeWhile p).length = i
  | [], i, h, _, _ => by simp at h; subst h; rfl
  | x :: l, 0, _, _, h2 => by simp [List.takeWhile_cons, h2 x rfl]
  | x :: l, i + 1, h, h1, h2 => by
    have ih := tw_eq (p := p) (l := l) (i := i) (by simpa using h) (fun k y hk hy => h1 (k + 1) y (by omega) (by simpa using hy)) (fun y hy => h2 y (by simpa using hy))
    simp [List.takeWhile_cons, h1 0 x (by omega) rfl, ih]
theorem sideO_step {s : Int} {l : List Order} {k : Nat} {x : Order} (hx : l[k]? = some x) : sideO s (l.take (k + 1)) = if isSide s x then insO s (sideO s (l.take k)) x else sideO s (l.take k) := by
  unfold sideO
  rw [List.take_add_one, hx, List.filter_append]
  cases h : isSide s x <;> simp [h, List.foldl_append]

set_option maxHeartbeats 4000000 in
theorem ref14_Side (W : World) (h : List Chunk) (p : Nat) (A : Option Addr) (c : Nat) (l : List Order) (s : Int) (m1 : Chunk.blk p 97 [.slice A l.length c] ∈ h) (m2 : Chunk.own A l.length c 82 6 (l.flatMap Order.enc) ∈ h) (hb : l.length ≤ 1000000) :
    FSpec Tryz.prog W 59 [.pointer (some ⟨p, 0, none⟩), .int .i64 s] h
      (fun v h' => ∃ A' c', v = .slice A' (sideO s l).length c' ∧ h' = .own A' (sideO s l).length c' 82 6 ((sideO s l).flatMap Order.enc) :: h ∧ OwnF A' (sideO s l).length c' 6 ((sideO s l).flatMap Order.enc)) := by
  refine FSpec.dropF ?_
  refine spec_body Tryz.func59 rfl rfl Tryz.results59 Tryz.ntmps59 rfl rfl ?_
  refine aw_fact m2 (fun hl hnc hcc hsome hnone hone => ?_)
  have hr : Reads W h A l.length 6 (l.flatMap Order.enc) := Reads.own m2 hl hone
  repeat' (first
    | apply aw_seq | apply aw_region | apply aw_ret | apply aw_skip | apply aw_exit | apply aw_block | apply es_nil
    | (apply es_pure hT; (iterate 4 exact rfl)) | (apply es_skip; (iterate 3 exact rfl)) | (apply es_skip0; (iterate 2 exact rfl))
    | (apply es_i64 hT; (iterate 4 exact rfl); (iterate 2 omega))
    | (apply aw_draw [] [] hmix; decide +kernel)
    | (apply es_load; (iterate 5 exact rfl); first | exact ld_blk hT rfl rfl mem0 rfl rfl | exact ld_all hT rfl rfl mem0 rfl)
    | (apply es_load; (iterate 5 exact rfl); first | exact ld_blk hT rfl rfl mem1 rfl rfl | exact ld_all hT rfl rfl mem1 rfl)
    | (apply es_load; (iterate 5 exact rfl); first | exact ld_blk hT rfl rfl mem2 rfl rfl | exact ld_all hT rfl rfl mem2 rfl)
    | (apply es_load; (iterate 5 exact rfl); first | exact ld_blk hT rfl rfl m1 rfl rfl | exact ld_all hT rfl rfl m1 rfl)
    | (apply es_load; (iterate 5 exact rfl); first | exact ld_blk hT rfl rfl (List.mem_cons_of_mem _ m1) rfl rfl | exact ld_all hT rfl rfl (List.mem_cons_of_mem _ m1) rfl)
    | (apply es_box; (iterate 5 exact rfl); intro _) | (apply es_alloc hT; (iterate 5 exact rfl); intro _)
    | (apply aw_condT; (iterate 2 exact rfl)) | (apply aw_condF; (iterate 2 exact rfl))
    | (apply es_case; exact rfl; all_goals intro hb; all_goals (try simp only [hb]); all_goals (first | replace hb := of_decide_eq_true hb | replace hb := of_decide_eq_false hb | replace hb := bne_t hb | replace hb := bne_f hb | skip); all_goals (try (exfalso; omega)))
    | (apply aw_cond; exact rfl; all_goals intro hb; all_goals (try simp only [hb]); all_goals (first | replace hb := of_decide_eq_true hb | replace hb := of_decide_eq_false hb | replace hb := bne_t hb | replace hb := bne_f hb | skip); all_goals (try (exfalso; omega))))
  refine aw_conv (fun w hw => ⟨_, hw.own_nil 82 6, ?_⟩)
  refine aw_loop (α := Nat × Option Addr × Nat) (E := fun x => [(0, .pointer (some ⟨p, 0, none⟩)), (1, .int .i64 s), (5, .slice x.2.1 (sideO s (l.take x.1)).length x.2.2), (6, .int .i64 x.1)])
    (H := fun x => .own x.2.1 (sideO s (l.take x.1)).length x.2.2 82 6 ((sideO s (l.take x.1)).flatMap Order.enc) :: h) (μ := fun x => l.length - x.1)
    (S := fun x => x.1 ≤ l.length) (0, none, 0) (J := []) (Nat.zero_le _) ⟨rfl, rfl, rfl, rfl, trivial⟩ (List.Perm.refl _) ?_
  rintro ⟨k, A5, c5⟩ hk
  dsimp only at hk ⊢
  by_cases hlt : k < l.length
  · obtain ⟨x, hx⟩ : ∃ x, l[k]? = some x := ⟨l[k]'(by omega), List.getElem?_eq_getElem (by omega)⟩
    have hx2 : l[(k : Int).toNat]? = some x := by simpa using hx
    obtain ⟨g, hA⟩ := hsome (by omega)
    have hA2 : A.isSome = true := by rw [hA]; rfl
    have hd1 : decide ((k : Int) < (l.length : Int)) = true := by simp; omega
    have hstep := sideO_step (s := s) hx
    have hol : (sideO s (l.take k)).length ≤ k := by have := sideO_len s (l.take k); simp at this; omega
    have hos : ∀ y ∈ sideO s (l.take k), y.side = s := fun y hy => (sideO_side hy).2
    generalize hout : sideO s (l.take k) = out at hstep hol hos ⊢
    refine aw_own mem0 (fun hf5 => ?_)
    cases hlv : isSide s x
    · have hne : ¬ x.side = s := by simpa [isSide] using hlv
      rw [hlv] at hstep
      repeat' (first
        | apply aw_seq | apply aw_region | apply aw_ret | apply aw_skip | apply aw_exit | apply aw_block | apply es_nil
        | (apply es_pure hT; (iterate 4 exact rfl)) | (apply es_skip; (iterate 3 exact rfl)) | (apply es_skip0; (iterate 2 exact rfl))
        | (apply es_i64 hT; (iterate 4 exact rfl); (iterate 2 omega))
        | (apply aw_draw [] [] hmix; decide +kernel)
        | (apply es_idx hT; (iterate 8 exact rfl); (iterate 2 omega); exact hA2)
        | (apply es_load; (iterate 5 exact rfl); exact ld_fld hT rfl rfl hr.cons Order.enc_len (adr_add _ _ _) hx2 (by decide) rfl)
        | (apply es_load; (iterate 5 exact rfl); first | exact ld_blk hT rfl rfl mem0 rfl rfl | exact ld_all hT rfl rfl mem0 rfl)
        | (apply es_load; (iterate 5 exact rfl); first | exact ld_blk hT rfl rfl mem1 rfl rfl | exact ld_all hT rfl rfl mem1 rfl)
        | (apply es_load; (iterate 5 exact rfl); first | exact ld_blk hT rfl rfl mem2 rfl rfl | exact ld_all hT rfl rfl mem2 rfl)
        | (apply es_load; (iterate 5 exact rfl); first | exact ld_blk hT rfl rfl m1 rfl rfl | exact ld_all hT rfl rfl m1 rfl)
        | (apply es_load; (iterate 5 exact rfl); first | exact ld_blk hT rfl rfl (List.mem_cons_of_mem _ m1) rfl rfl | exact ld_all hT rfl rfl (List.mem_cons_of_mem _ m1) rfl)
        | (apply es_box; (iterate 5 exact rfl); intro _) | (apply es_alloc hT; (iterate 5 exact rfl); intro _)
        | (apply aw_condT; (iterate 2 exact rfl)) | (apply aw_condF; (iterate 2 exact rfl))
        | (apply es_case; exact rfl; all_goals intro hb; all_goals (try simp only [hb]); all_goals (first | replace hb := of_decide_eq_true hb | replace hb := of_decide_eq_false hb | replace hb := bne_t hb | replace hb := bne_f hb | skip); all_goals (try (exfalso; omega)))
        | (apply aw_cond; exact rfl; all_goals intro hb; all_goals (try simp only [hb]); all_goals (first | replace hb := of_decide_eq_true hb | replace hb := of_decide_eq_false hb | replace hb := bne_t hb | replace hb := bne_f hb | skip); all_goals (try (exfalso; omega))))
      all_goals first
        | (exfalso; omega)
        | (refine loopq_end (k + 1, A5, c5) (by dsimp only; omega) (by dsimp only; omega) ⟨rfl, rfl, by dsimp only; rw [hstep]; rfl, rfl, trivial⟩ ?_
           dsimp only
           rw [hstep]
           exact dt_end)
    · have hne : x.side = s := by simpa [isSide] using hlv
      rw [hlv, if_pos rfl] at hstep
      repeat' (first
        | apply aw_seq | apply aw_region | apply aw_ret | apply aw_skip | apply aw_exit | apply aw_block | apply es_nil
        | (apply es_pure hT; (iterate 4 exact rfl)) | (apply es_skip; (iterate 3 exact rfl)) | (apply es_skip0; (iterate 2 exact rfl))
        | (apply es_i64 hT; (iterate 4 exact rfl); (iterate 2 omega))
        | (apply aw_draw [] [] hmix; decide +kernel)
        | (apply es_idx hT; (iterate 8 exact rfl); (iterate 2 omega); exact hA2)
        | (apply es_load; (iterate 5 exact rfl); exact ld_fld hT rfl rfl hr.cons Order.enc_len (adr_add _ _ _) hx2 (by decide) rfl)
        | (apply es_load; (iterate 5 exact rfl); first | exact ld_blk hT rfl rfl mem0 rfl rfl | exact ld_all hT rfl rfl mem0 rfl)
        | (apply es_load; (iterate 5 exact rfl); first | exact ld_blk hT rfl rfl mem1 rfl rfl | exact ld_all hT rfl rfl mem1 rfl)
        | (apply es_load; (iterate 5 exact rfl); first | exact ld_blk hT rfl rfl mem2 rfl rfl | exact ld_all hT rfl rfl mem2 rfl)
        | (apply es_load; (iterate 5 exact rfl); first | exact ld_blk hT rfl rfl m1 rfl rfl | exact ld_all hT rfl rfl m1 rfl)
        | (apply es_load; (iterate 5 exact rfl); first | exact ld_blk hT rfl rfl (List.mem_cons_of_mem _ m1) rfl rfl | exact ld_all hT rfl rfl (List.mem_cons_of_mem _ m1) rfl)
        | (apply es_box; (iterate 5 exact rfl); intro _) | (apply es_alloc hT; (iterate 5 exact rfl); intro _)
        | (apply aw_condT; (iterate 2 exact rfl)) | (apply aw_condF; (iterate 2 exact rfl))
        | (apply es_case; exact rfl; all_goals intro hb; all_goals (try simp only [hb]); all_goals (first | replace hb := of_decide_eq_true hb | replace hb := of_decide_eq_false hb | replace hb := bne_t hb | replace hb := bne_f hb | skip); all_goals (try (exfalso; omega)))
        | (apply aw_cond; exact rfl; all_goals intro hb; all_goals (try simp only [hb]); all_goals (first | replace hb := of_decide_eq_true hb | replace hb := of_decide_eq_false hb | replace hb := bne_t hb | replace hb := bne_f hb | skip); all_goals (try (exfalso; omega))))
      all_goals try (exfalso; omega)
      refine aw_loop (α := Nat) (E := fun j => [(0, .pointer (some ⟨p, 0, none⟩)), (1, .int .i64 s), (5, .slice A5 out.length c5), (6, .int .i64 k), (7, .int .i64 j)])
        (H := fun _ => .own A5 out.length c5 82 6 (out.flatMap Order.enc) :: h) (μ := fun j => out.length - j)
        (S := fun j => j ≤ out.length ∧ ∀ (i : Nat) y, i < j → out[i]? = some y → aheadS s y x = true) 0 (J := []) ⟨Nat.zero_le _, fun i y hi => absurd hi (Nat.not_lt_zero _)⟩ ⟨rfl, rfl, rfl, rfl, rfl, trivial⟩ (List.Perm.refl _) ?_
      rintro j ⟨hj, hno⟩
      have hfin : (∀ y, out[j]? = some y → aheadS s y x = false) → insO s out x = out.take j ++ [x] ++ out.drop j := fun hn => by
        unfold insO
        rw [tw_eq (p := fun z => aheadS s z x) hj hno hn]
      by_cases hlt2 : j < out.length
      · obtain ⟨y, hy⟩ : ∃ y, out[j]? = some y := ⟨out[j]'(by omega), List.getElem?_eq_getElem (by omega)⟩
        have hy2 : out[(j : Int).toNat]? = some y := by simpa using hy
        have hA5 := hf5.some_ (by omega)
        have hd2 : decide ((j : Int) < (out.length : Int)) = true := by simp; omega
        have hys := hos y (List.mem_of_getElem? hy)
        have hah := ref14_ahead W y x
        rw [hys] at hah
        cases hal : aheadS s y x
        · rw [hal] at hah
          have hins := hfin (fun z hz => by rw [hy] at hz; cases hz; exact hal)
          rw [hins] at hstep
          have hnc5 := hf5.nc
          have R1 := (hf5.reads (W := W) (h := .own A5 out.length c5 82 6 (out.flatMap Order.enc) :: h) mem0).take hj
          have R2 := (hf5.reads (W := W) (h := .own A5 out.length c5 82 6 (out.flatMap Order.enc) :: h) mem0).cut hf5.nc hj (Nat.le_refl _)
          have hcs : ([] : List Value) ++ (out.flatMap Order.enc).take (j * 6) ++ x.enc ++ ((out.flatMap Order.enc).drop (j * 6)).take ((out.length - j) * 6) = (sideO s (l.take (k + 1))).flatMap Order.enc := by
            have e : (out.drop j).take (out.length - j) = out.drop j := List.take_of_length_le (by simp)
            rw [flat_take Order.enc_len, flat_drop Order.enc_len, flat_take Order.enc_len, e, hstep]; simp
          have hln : (sideO s (l.take (k + 1))).length = 0 + (j : Int).toNat + 1 + (out.length - (j : Int).toNat) := by rw [hstep]; simp; omega
          repeat' (first
            | apply aw_seq | apply aw_region | apply aw_ret | apply aw_skip | apply aw_exit | apply aw_block | apply es_nil
            | (apply es_pure hT; (iterate 4 exact rfl)) | (apply es_skip; (iterate 3 exact rfl)) | (apply es_skip0; (iterate 2 exact rfl))
            | (apply es_i64 hT; (iterate 4 exact rfl); (iterate 2 omega))
            | (apply aw_draw [128] [] hmix; decide +kernel)
            | (apply aw_tree [] [] (.step 1 <| .step 2 <| .step 3 <| .step 5 <| .step 6 <| .step 7 <| .step 8 <| .step 9 <| .step 10 <| .step 11 <| .step 14 <| .step 15 <| .step 16 <| .alt (.step 0 <| .alt (.step 4 <| .step 12 <| .step 13 <| .step 17 <| .step 18 <| .nil) ((.step 12 <| .step 4 <| .step 13 <| .step 17 <| .step 18 <| .nil))) ((.step 12 <| .step 0 <| .step 4 <| .step 13 <| .step 17 <| .step 18 <| .nil))) hmix; decide +kernel) | apply ep_nil | apply ep_alt | (apply ep_step; exact rfl)
            | (apply es_idx hT; (iterate 8 exact rfl); (iterate 2 omega); first | exact hA2 | exact hA5)
            | ((first | (apply es_load; (iterate 5 exact rfl)) | (apply es_loadL; (iterate 5 exact rfl); first | exact fun _ h => h)); first | exact ld_elem hT rfl rfl hr.cons Order.enc_len rfl hx2 rfl | exact ld_elem hT rfl rfl (hf5.reads mem0) Order.enc_len rfl hy2 rfl)
            | (apply es_callQ (hs := (hah.mono (by simp))); (iterate 7 exact rfl))
            | (apply es_sliceTo hT; (iterate 8 exact rfl); (iterate 2 omega))
            | (apply es_sliceFrom hT; (iterate 8 exact rfl); (iterate 2 omega); exact hf5.nc; exact rfl)
            | (apply es_buildSlice hT; (iterate 12 exact rfl); intro g)
            | (apply es_appendG hT; (iterate 10 exact rfl); (first | exact sel0 | exact sel1 | exact selS sel1 | exact selS (selS sel1) | exact selS (selS (selS sel1)) | exact selS (selS (selS (selS sel1))) | exact selS (selS (selS (selS (selS sel1)))) | exact selS (selS (selS (selS (selS (selS sel1)))))); (first | (refine R1.mono ?_; (first | exact fun _ h => h | exact fun _ h => .tail _ h | exact fun _ h => .tail _ (.tail _ h) | exact fun _ h => .tail _ (.tail _ (.tail _ h)) | exact fun _ h => .tail _ (.tail _ (.tail _ (.tail _ h))))) | (refine R2.mono ?_; (first | exact fun _ h => h | exact fun _ h => .tail _ h | exact fun _ h => .tail _ (.tail _ h) | exact fun _ h => .tail _ (.tail _ (.tail _ h)) | exact fun _ h => .tail _ (.tail _ (.tail _ (.tail _ h))))) | exact Reads.own mem0 rfl (Order.enc_one x) | exact Reads.own mem1 rfl (Order.enc_one x) | exact Reads.own mem2 rfl (Order.enc_one x)); (first | exact fun _ h => h | exact fun _ h => .tail _ h | exact fun _ h => .tail _ (.tail _ h) | exact fun _ h => .tail _ (.tail _ (.tail _ h)) | exact fun _ h => .tail _ (.tail _ (.tail _ (.tail _ h)))); omega; (show (_ : Nat) * 48 ≤ _; omega); intro A' c')
            | ((first | (apply es_load; (iterate 5 exact rfl)) | (apply es_loadL; (iterate 5 exact rfl); first | exact fun _ h => h)); first | exact ld_blk hT rfl rfl mem0 rfl rfl | exact ld_all hT rfl rfl mem0 rfl)
            | ((first | (apply es_load; (iterate 5 exact rfl)) | (apply es_loadL; (iterate 5 exact rfl); first | exact fun _ h => h)); first | exact ld_blk hT rfl rfl mem1 rfl rfl | exact ld_all hT rfl rfl mem1 rfl)
            | ((first | (apply es_load; (iterate 5 exact rfl)) | (apply es_loadL; (iterate 5 exact rfl); first | exact fun _ h => h)); first | exact ld_blk hT rfl rfl mem2 rfl rfl | exact ld_all hT rfl rfl mem2 rfl)
            | ((first | (apply es_load; (iterate 5 exact rfl)) | (apply es_loadL; (iterate 5 exact rfl); first | exact fun _ h => h)); first | exact ld_blk hT rfl rfl m1 rfl rfl | exact ld_all hT rfl rfl m1 rfl)
            | ((first | (apply es_load; (iterate 5 exact rfl)) | (apply es_loadL; (iterate 5 exact rfl); first | exact fun _ h => h)); first | exact ld_blk hT rfl rfl (List.mem_cons_of_mem _ m1) rfl rfl | exact ld_all hT rfl rfl (List.mem_cons_of_mem _ m1) rfl)
            | ((first | (apply es_load; (iterate 5 exact rfl)) | (apply es_loadL; (iterate 5 exact rfl); first | exact fun _ h => h)); first | exact ld_blk hT rfl rfl (List.mem_cons_of_mem _ (List.mem_cons_of_mem _ m1)) rfl rfl | exact ld_all hT rfl rfl (List.mem_cons_of_mem _ (List.mem_cons_of_mem _ m1)) rfl)
            | ((first | (apply es_load; (iterate 5 exact rfl)) | (apply es_loadL; (iterate 5 exact rfl); first | exact fun _ h => h)); first | exact ld_blk hT rfl rfl (List.mem_cons_of_mem _ (List.mem_cons_of_mem _ (List.mem_cons_of_mem _ m1))) rfl rfl | exact ld_all hT rfl rfl (List.mem_cons_of_mem _ (List.mem_cons_of_mem _ (List.mem_cons_of_mem _ m1))) rfl)
            | ((first | (apply es_load; (iterate 5 exact rfl)) | (apply es_loadL; (iterate 5 exact rfl); first | exact fun _ h => h)); first | exact ld_blk hT rfl rfl (List.mem_cons_of_mem _ (List.mem_cons_of_mem _ (List.mem_cons_of_mem _ (List.mem_cons_of_mem _ m1)))) rfl rfl | exact ld_all hT rfl rfl (List.mem_cons_of_mem _ (List.mem_cons_of_mem _ (List.mem_cons_of_mem _ (List.mem_cons_of_mem _ m1)))) rfl)
            | (apply es_box; (iterate 5 exact rfl); intro _) | (apply es_alloc hT; (iterate 5 exact rfl); intro _)
            | (apply aw_condT; (iterate 2 exact rfl)) | (apply aw_condF; (iterate 2 exact rfl))
            | (apply es_case; exact rfl; all_goals intro hb; all_goals (try simp only [hb]); all_goals (first | replace hb := of_decide_eq_true hb | replace hb := of_decide_eq_false hb | replace hb := bne_t hb | replace hb := bne_f hb | skip); all_goals (try (exfalso; omega)))
            | (apply aw_cond; exact rfl; all_goals intro hb; all_goals (try simp only [hb]); all_goals (first | replace hb := of_decide_eq_true hb | replace hb := of_decide_eq_false hb | replace hb := bne_t hb | replace hb := bne_f hb | skip); all_goals (try (exfalso; omega))))
          all_goals first
            | (exfalso; omega)
            | (refine loopq_end (k + 1, A', c') (by dsimp only; omega) (by dsimp only; omega) ⟨rfl, rfl, by dsimp only; rw [hln]; rfl, rfl, trivial⟩ ?_
               dsimp only
               rw [hln, ← hcs]
               apply dt_cons; (first | exact sel0 | exact sel1 | exact selS sel1 | exact selS (selS sel1) | exact selS (selS (selS sel1)) | exact selS (selS (selS (selS sel1))) | exact selS (selS (selS (selS (selS sel1)))) | exact selS (selS (selS (selS (selS (selS sel1))))))
               (repeat (first | exact dt_end | apply dt_skip)))
            | (exfalso; simp_all; done)
        · rw [hal] at hah
          repeat' (first
            | apply aw_seq | apply aw_region | apply aw_ret | apply aw_skip | apply aw_exit | apply aw_block | apply es_nil
            | (apply es_pure hT; (iterate 4 exact rfl)) | (apply es_skip; (iterate 3 exact rfl)) | (apply es_skip0; (iterate 2 exact rfl))
            | (apply es_i64 hT; (iterate 4 exact rfl); (iterate 2 omega))
            | (apply aw_draw [128] [] hmix; decide +kernel)
            | (apply es_idx hT; (iterate 8 exact rfl); (iterate 2 omega); first | exact hA2 | exact hA5)
            | (apply es_load; (iterate 5 exact rfl); first | exact ld_elem hT rfl rfl hr.cons Order.enc_len rfl hx2 rfl | exact ld_elem hT rfl rfl (hf5.reads mem0) Order.enc_len rfl hy2 rfl)
            | (apply es_callQ (hs := (hah.mono (by simp))); (iterate 7 exact rfl))
            | (apply es_load; (iterate 5 exact rfl); first | exact ld_blk hT rfl rfl mem0 rfl rfl | exact ld_all hT rfl rfl mem0 rfl)
            | (apply es_load; (iterate 5 exact rfl); first | exact ld_blk hT rfl rfl mem1 rfl rfl | exact ld_all hT rfl rfl mem1 rfl)
            | (apply es_load; (iterate 5 exact rfl); first | exact ld_blk hT rfl rfl mem2 rfl rfl | exact ld_all hT rfl rfl mem2 rfl)
            | (apply es_load; (iterate 5 exact rfl); first | exact ld_blk hT rfl rfl m1 rfl rfl | exact ld_all hT rfl rfl m1 rfl)
            | (apply es_load; (iterate 5 exact rfl); first | exact ld_blk hT rfl rfl (List.mem_cons_of_mem _ m1) rfl rfl | exact ld_all hT rfl rfl (List.mem_cons_of_mem _ m1) rfl)
            | (apply es_box; (iterate 5 exact rfl); intro _) | (apply es_alloc hT; (iterate 5 exact rfl); intro _)
            | (apply aw_condT; (iterate 2 exact rfl)) | (apply aw_condF; (iterate 2 exact rfl))
            | (apply es_case; exact rfl; all_goals intro hb; all_goals (try simp only [hb]); all_goals (first | replace hb := of_decide_eq_true hb | replace hb := of_decide_eq_false hb | replace hb := bne_t hb | replace hb := bne_f hb | skip); all_goals (try (exfalso; omega)))
            | (apply aw_cond; exact rfl; all_goals intro hb; all_goals (try simp only [hb]); all_goals (first | replace hb := of_decide_eq_true hb | replace hb := of_decide_eq_false hb | replace hb := bne_t hb | replace hb := bne_f hb | skip); all_goals (try (exfalso; omega))))
          all_goals first
            | (exfalso; omega)
            | apply blockq_n; exact loopq_end (j + 1) (by (try dsimp only); omega) ⟨by (try dsimp only); omega, fun i z hi hz => by
                by_cases hij : i = j
                · rw [hij, hy] at hz; cases hz; exact hal
                · exact hno i z (by (try dsimp only at hi); omega) hz⟩ ⟨rfl, rfl, rfl, rfl, rfl, trivial⟩ dt_end
            | (exfalso; simp_all; done)
      · have hins := hfin (fun z hz => by have := (List.getElem?_eq_some_iff.1 hz).1; omega)
        rw [hins] at hstep
        have hd2 : decide ((j : Int) < (out.length : Int)) = false := by simp; omega
        have hah := ref14_ahead W x x
        have hy2 := hx2
        have hA5 := hA2
        have hnc5 := hf5.nc
        have R1 := (hf5.reads (W := W) (h := .own A5 out.length c5 82 6 (out.flatMap Order.enc) :: h) mem0).take hj
        have R2 := (hf5.reads (W := W) (h := .own A5 out.length c5 82 6 (out.flatMap Order.enc) :: h) mem0).cut hf5.nc hj (Nat.le_refl _)
        have hcs : ([] : List Value) ++ (out.flatMap Order.enc).take (j * 6) ++ x.enc ++ ((out.flatMap Order.enc).drop (j * 6)).take ((out.length - j) * 6) = (sideO s (l.take (k + 1))).flatMap Order.enc := by
          have e : (out.drop j).take (out.length - j) = out.drop j := List.take_of_length_le (by simp)
          rw [flat_take Order.enc_len, flat_drop Order.enc_len, flat_take Order.enc_len, e, hstep]; simp
        have hln : (sideO s (l.take (k + 1))).length = 0 + (j : Int).toNat + 1 + (out.length - (j : Int).toNat) := by rw [hstep]; simp; omega
        repeat' (first
          | apply aw_seq | apply aw_region | apply aw_ret | apply aw_skip | apply aw_exit | apply aw_block | apply es_nil
          | (apply es_pure hT; (iterate 4 exact rfl)) | (apply es_skip; (iterate 3 exact rfl)) | (apply es_skip0; (iterate 2 exact rfl))
          | (apply es_i64 hT; (iterate 4 exact rfl); (iterate 2 omega))
          | (apply aw_draw [128] [] hmix; decide +kernel)
          | (apply aw_tree [] [] (.step 1 <| .step 2 <| .step 3 <| .step 5 <| .step 6 <| .step 7 <| .step 8 <| .step 9 <| .step 10 <| .step 11 <| .step 14 <| .step 15 <| .step 16 <| .alt (.step 0 <| .alt (.step 4 <| .step 12 <| .step 13 <| .step 17 <| .step 18 <| .nil) ((.step 12 <| .step 4 <| .step 13 <| .step 17 <| .step 18 <| .nil))) ((.step 12 <| .step 0 <| .step 4 <| .step 13 <| .step 17 <| .step 18 <| .nil))) hmix; decide +kernel) | apply ep_nil | apply ep_alt | (apply ep_step; exact rfl)
          | (apply es_idx hT; (iterate 8 exact rfl); (iterate 2 omega); first | exact hA2 | exact hA5)
          | ((first | (apply es_load; (iterate 5 exact rfl)) | (apply es_loadL; (iterate 5 exact rfl); first | exact fun _ h => h)); first | exact ld_elem hT rfl rfl hr.cons Order.enc_len rfl hx2 rfl | exact ld_elem hT rfl rfl (hf5.reads mem0) Order.enc_len rfl hy2 rfl)
          | (apply es_callQ (hs := (hah.mono (by simp))); (iterate 7 exact rfl))
          | (apply es_sliceTo hT; (iterate 8 exact rfl); (iterate 2 omega))
          | (apply es_sliceFrom hT; (iterate 8 exact rfl); (iterate 2 omega); exact hf5.nc; exact rfl)
          | (apply es_buildSlice hT; (iterate 12 exact rfl); intro g)
          | (apply es_appendG hT; (iterate 10 exact rfl); (first | exact sel0 | exact sel1 | exact selS sel1 | exact selS (selS sel1) | exact selS (selS (selS sel1)) | exact selS (selS (selS (selS sel1))) | exact selS (selS (selS (selS (selS sel1)))) | exact selS (selS (selS (selS (selS (selS sel1)))))); (first | (refine R1.mono ?_; (first | exact fun _ h => h | exact fun _ h => .tail _ h | exact fun _ h => .tail _ (.tail _ h) | exact fun _ h => .tail _ (.tail _ (.tail _ h)) | exact fun _ h => .tail _ (.tail _ (.tail _ (.tail _ h))))) | (refine R2.mono ?_; (first | exact fun _ h => h | exact fun _ h => .tail _ h | exact fun _ h => .tail _ (.tail _ h) | exact fun _ h => .tail _ (.tail _ (.tail _ h)) | exact fun _ h => .tail _ (.tail _ (.tail _ (.tail _ h))))) | exact Reads.own mem0 rfl (Order.enc_one x) | exact Reads.own mem1 rfl (Order.enc_one x) | exact Reads.own mem2 rfl (Order.enc_one x)); (first | exact fun _ h => h | exact fun _ h => .tail _ h | exact fun _ h => .tail _ (.tail _ h) | exact fun _ h => .tail _ (.tail _ (.tail _ h)) | exact fun _ h => .tail _ (.tail _ (.tail _ (.tail _ h)))); omega; (show (_ : Nat) * 48 ≤ _; omega); intro A' c')
          | ((first | (apply es_load; (iterate 5 exact rfl)) | (apply es_loadL; (iterate 5 exact rfl); first | exact fun _ h => h)); first | exact ld_blk hT rfl rfl mem0 rfl rfl | exact ld_all hT rfl rfl mem0 rfl)
          | ((first | (apply es_load; (iterate 5 exact rfl)) | (apply es_loadL; (iterate 5 exact rfl); first | exact fun _ h => h)); first | exact ld_blk hT rfl rfl mem1 rfl rfl | exact ld_all hT rfl rfl mem1 rfl)
          | ((first | (apply es_load; (iterate 5 exact rfl)) | (apply es_loadL; (iterate 5 exact rfl); first | exact fun _ h => h)); first | exact ld_blk hT rfl rfl mem2 rfl rfl | exact ld_all hT rfl rfl mem2 rfl)
          | ((first | (apply es_load; (iterate 5 exact rfl)) | (apply es_loadL; (iterate 5 exact rfl); first | exact fun _ h => h)); first | exact ld_blk hT rfl rfl m1 rfl rfl | exact ld_all hT rfl rfl m1 rfl)
          | ((first | (apply es_load; (iterate 5 exact rfl)) | (apply es_loadL; (iterate 5 exact rfl); first | exact fun _ h => h)); first | exact ld_blk hT rfl rfl (List.mem_cons_of_mem _ m1) rfl rfl | exact ld_all hT rfl rfl (List.mem_cons_of_mem _ m1) rfl)
          | ((first | (apply es_load; (iterate 5 exact rfl)) | (apply es_loadL; (iterate 5 exact rfl); first | exact fun _ h => h)); first | exact ld_blk hT rfl rfl (List.mem_cons_of_mem _ (List.mem_cons_of_mem _ m1)) rfl rfl | exact ld_all hT rfl rfl (List.mem_cons_of_mem _ (List.mem_cons_of_mem _ m1)) rfl)
          | ((first | (apply es_load; (iterate 5 exact rfl)) | (apply es_loadL; (iterate 5 exact rfl); first | exact fun _ h => h)); first | exact ld_blk hT rfl rfl (List.mem_cons_of_mem _ (List.mem_cons_of_mem _ (List.mem_cons_of_mem _ m1))) rfl rfl | exact ld_all hT rfl rfl (List.mem_cons_of_mem _ (List.mem_cons_of_mem _ (List.mem_cons_of_mem _ m1))) rfl)
          | ((first | (apply es_load; (iterate 5 exact rfl)) | (apply es_loadL; (iterate 5 exact rfl); first | exact fun _ h => h)); first | exact ld_blk hT rfl rfl (List.mem_cons_of_mem _ (List.mem_cons_of_mem _ (List.mem_cons_of_mem _ (List.mem_cons_of_mem _ m1)))) rfl rfl | exact ld_all hT rfl rfl (List.mem_cons_of_mem _ (List.mem_cons_of_mem _ (List.mem_cons_of_mem _ (List.mem_cons_of_mem _ m1)))) rfl)
          | (apply es_box; (iterate 5 exact rfl); intro _) | (apply es_alloc hT; (iterate 5 exact rfl); intro _)
          | (apply aw_condT; (iterate 2 exact rfl)) | (apply aw_condF; (iterate 2 exact rfl))
          | (apply es_case; exact rfl; all_goals intro hb; all_goals (try simp only [hb]); all_goals (first | replace hb := of_decide_eq_true hb | replace hb := of_decide_eq_false hb | replace hb := bne_t hb | replace hb := bne_f hb | skip); all_goals (try (exfalso; omega)))
          | (apply aw_cond; exact rfl; all_goals intro hb; all_goals (try simp only [hb]); all_goals (first | replace hb := of_decide_eq_true hb | replace hb := of_decide_eq_false hb | replace hb := bne_t hb | replace hb := bne_f hb | skip); all_goals (try (exfalso; omega))))
        all_goals first
          | (exfalso; omega)
          | (refine loopq_end (k + 1, A', c') (by dsimp only; omega) (by dsimp only; omega) ⟨rfl, rfl, by dsimp only; rw [hln]; rfl, rfl, trivial⟩ ?_
             dsimp only
             rw [hln, ← hcs]
             apply dt_cons; (first | exact sel0 | exact sel1 | exact selS sel1 | exact selS (selS sel1) | exact selS (selS (selS sel1)) | exact selS (selS (selS (selS sel1))) | exact selS (selS (selS (selS (selS sel1)))) | exact selS (selS (selS (selS (selS (selS sel1))))))
             (repeat (first | exact dt_end | apply dt_skip)))
          | (exfalso; simp_all; done)
  · obtain rfl : k = l.length := by omega
    have hd1 : decide ((l.length : Int) < (l.length : Int)) = false := by simp
    rw [List.take_length]
    repeat' (first
      | apply aw_seq | apply aw_region | apply aw_ret | apply aw_skip | apply aw_exit | apply aw_block | apply es_nil
      | (apply es_pure hT; (iterate 4 exact rfl)) | (apply es_skip; (iterate 3 exact rfl)) | (apply es_skip0; (iterate 2 exact rfl))
      | (apply es_i64 hT; (iterate 4 exact rfl); (iterate 2 omega))
      | (apply aw_draw [] [] hmix; decide +kernel)
      | (apply es_load; (iterate 5 exact rfl); first | exact ld_blk hT rfl rfl mem0 rfl rfl | exact ld_all hT rfl rfl mem0 rfl)
      | (apply es_load; (iterate 5 exact rfl); first | exact ld_blk hT rfl rfl mem1 rfl rfl | exact ld_all hT rfl rfl mem1 rfl)
      | (apply es_load; (iterate 5 exact rfl); first | exact ld_blk hT rfl rfl mem2 rfl rfl | exact ld_all hT rfl rfl mem2 rfl)
      | (apply es_load; (iterate 5 exact rfl); first | exact ld_blk hT rfl rfl m1 rfl rfl | exact ld_all hT rfl rfl m1 rfl)
      | (apply es_load; (iterate 5 exact rfl); first | exact ld_blk hT rfl rfl (List.mem_cons_of_mem _ m1) rfl rfl | exact ld_all hT rfl rfl (List.mem_cons_of_mem _ m1) rfl)
      | (apply es_box; (iterate 5 exact rfl); intro _) | (apply es_alloc hT; (iterate 5 exact rfl); intro _)
      | (apply aw_condT; (iterate 2 exact rfl)) | (apply aw_condF; (iterate 2 exact rfl))
      | (apply es_case; exact rfl; all_goals intro hb; all_goals (try simp only [hb]); all_goals (first | replace hb := of_decide_eq_true hb | replace hb := of_decide_eq_false hb | replace hb := bne_t hb | replace hb := bne_f hb | skip); all_goals (try (exfalso; omega)))
      | (apply aw_cond; exact rfl; all_goals intro hb; all_goals (try simp only [hb]); all_goals (first | replace hb := of_decide_eq_true hb | replace hb := of_decide_eq_false hb | replace hb := bne_t hb | replace hb := bne_f hb | skip); all_goals (try (exfalso; omega))))
    all_goals first
      | (exfalso; omega)
      | (apply ret1; exact rfl
         exact ⟨.own A5 (sideO s l).length c5 82 6 ((sideO s l).flatMap Order.enc) :: h, dt_end, fun w hw => ⟨A5, c5, rfl, rfl, hw.ownF mem0⟩⟩)

end Go.Proofs.YtjcnaeengplcbaaGreat

set_option linter.unusedSimpArgs false
set_option linter.unusedVariables false
namespace Go.Proofs.YtjcnaeengplcbaaGreat
open Go Go.Sl
attribute [local irreducible] AW ES EP Ld RetQ
set_option maxRecDepth 100000

structure Act14 where
  kind : Int
  order : Order
def Act14.enc (a : Act14) : List Value := .int .i64 a.kind :: a.order.enc
theorem Act14.enc_len (a : Act14) : a.enc.length = 7 := rfl
theorem dropO_sub (id : Int) (l : List Order) : (dropO id l).Sublist l := by
  unfold dropO
  split
  · exact List.Sublist.refl _
  · generalize (idxOf (hasO id) l).toNat = i
    have h : l.take i ++ l.drop (i + 1) = l.eraseIdx i := (List.eraseIdx_eq_take_drop_succ l i).symm
    rw [h]; exact List.eraseIdx_sublist l i
theorem BookB.sub {l m : List Order} (h : BookB l) (hs : m.Sublist l) : BookB m :=
  ⟨List.Pairwise.sublist hs h.seq, h.id.sublist hs, fun o ho => h.ok o (hs.subset ho), Nat.le_trans hs.length_le h.len⟩
/-- two rows that the call owns, of the same orders -/
theorem same_two (W : World) (h : List Chunk) (A1 A2 : Option Addr) (c1 c2 : Nat) (m : List Order) (h1 : OwnF A1 m.length c1 6 (m.flatMap Order.enc)) (h2 : OwnF A2 m.length c2 6 (m.flatMap Order.enc))
    (m1 : Chunk.own A1 m.length c1 82 6 (m.flatMap Order.enc) ∈ h) (m2 : Chunk.own A2 m.length c2 82 6 (m.flatMap Order.enc) ∈ h) (hb : m.length ≤ 1000000) :
    QSpec Tryz.prog W 58 [.slice A1 m.length c1, .slice A2 m.length c2] h (.bool true) :=
  (ref14_SameO W h A1 A2 c1 c2 m m (h1.reads m1) (h2.reads m2) hb).cast (by simp)
end Go.Proofs.YtjcnaeengplcbaaGreat

set_option linter.unusedSimpArgs false
set_option linter.unusedVariables false
namespace Go.Proofs.YtjcnaeengplcbaaGreat
open Go Go.Sl

def pqO (o : Order) : Int × Int := (o.price, o.left)
/-- prices and quantities that may be -/
def okP (l : List (Int × Int)) : Prop := ∀ x ∈ l, 1 ≤ x.1 ∧ x.1 ≤ 1000000 ∧ 1 ≤ x.2
theorem okP.tail {x : Int × Int} {l : List (Int × Int)} (h : okP (x :: l)) : okP l := fun y hy => h y (List.mem_cons_of_mem _ hy)
/-! ### a side -/
def okS (o : List Order) : Prop := ∀ x ∈ o, 1 ≤ x.price ∧ x.price ≤ 1000000 ∧ 1 ≤ x.left ∧ x.left ≤ 1000000
theorem okS.pq {o : List Order} (h : okS o) : okP (o.map pqO) := fun x hx => by
  obtain ⟨y, hy, rfl⟩ := List.mem_map.1 hx
  exact ⟨(h y hy).1, (h y hy).2.1, (h y hy).2.2.1⟩
theorem addLv_eq (v : List Lvl) (o : Order) : (∃ u w, v = u ++ [w] ∧ w.price = o.price ∧ addLv v o = u ++ [⟨w.price, w.qty + o.left⟩]) ∨ addLv v o = v ++ [⟨o.price, o.left⟩] := by
  rcases List.eq_nil_or_concat v with rfl | ⟨u, w, rfl⟩
  · exact .inr rfl
  · by_cases hp : w.price = o.price
    · refine .inl ⟨u, w, by simp, hp, ?_⟩
      simp [addLv, hp]
    · refine .inr ?_
      simp [addLv, hp]
theorem okO_price {o : Order} (h : okO o = true) : 1 ≤ o.price ∧ o.price ≤ 1000000 := by
  simp only [okO, Bool.and_eq_true, decide_eq_true_eq] at h
  exact ⟨h.1.1.1.1.1.2, h.1.1.1.1.2⟩
theorem BookB.okS {l : List Order} (h : BookB l) (s : Int) : okS (sideO s l) := fun x hx => by
  have := (sideO_side hx).1
  exact ⟨(okO_price (h.ok x this)).1, (okO_price (h.ok x this)).2, (h.left x this).1, (h.left x this).2⟩
end Go.Proofs.YtjcnaeengplcbaaGreat

set_option linter.unusedSimpArgs false
set_option linter.unusedVariables false
namespace Go.Proofs.YtjcnaeengplcbaaGreat
open Go Go.Sl

/-! ### books -/
/-- no two orders could trade -/
def uncrB (l : List Order) : Prop := ∀ a ∈ l, ∀ b ∈ l, a.side = 1 → b.side = 2 → a.price < b.price
instance (l : List Order) : Decidable (uncrB l) := by unfold uncrB; infer_instance
theorem lv_price (o : List Order) : ∀ v ∈ levelsO o, ∃ x ∈ o, v.price = x.price := by
  have key : ∀ (o : List Order) (v : List Lvl) (P : Int → Prop), (∀ w ∈ v, P w.price) → (∀ x ∈ o, P x.price) → ∀ w ∈ o.foldl addLv v, P w.price := by
    intro o
    induction o with
    | nil => intro v P hv _ w hw; exact hv w hw
    | cons x o ih =>
      intro v P hv ho w hw
      rw [List.foldl_cons] at hw
      refine ih (addLv v x) P (fun u hu => ?_) (fun y hy => ho y (List.mem_cons_of_mem _ hy)) w hw
      rcases addLv_eq v x with ⟨u', w', rfl, hp, he⟩ | he
      · rw [he] at hu
        rcases List.mem_append.1 hu with h | h
        · exact hv u (List.mem_append_left _ h)
        · rw [List.mem_singleton.1 h]; exact hv w' (by simp)
      · rw [he] at hu
        rcases List.mem_append.1 hu with h | h
        · exact hv u h
        · rw [List.mem_singleton.1 h]; exact ho x List.mem_cons_self
  intro v hv
  exact key o [] (fun p => ∃ x ∈ o, p = x.price) (fun w hw => (by cases hw)) (fun x hx => ⟨x, hx, rfl⟩) v hv
theorem lv_first : ∀ (o : List Order) (v : List Lvl) (p : Int), (∃ w u, v = w :: u ∧ w.price = p) → ∃ w u, o.foldl addLv v = w :: u ∧ w.price = p
  | [], v, p, h => h
  | x :: o, v, p, ⟨w, u, hv, hp⟩ => by
    rw [List.foldl_cons]
    refine lv_first o (addLv v x) p ?_
    rcases addLv_eq v x with ⟨u', w', e, h1, he⟩ | he
    · rw [he]
      cases u' with
      | nil =>
        rw [hv] at e
        injection e with e1 e2
        exact ⟨_, _, rfl, by rw [← e1]; exact hp⟩
      | cons y ys =>
        rw [hv] at e
        injection e with e1 e2
        exact ⟨y, _, rfl, by rw [← e1]; exact hp⟩
    · rw [he, hv]; exact ⟨w, _, rfl, hp⟩
theorem lv_head {x : Order} {o : List Order} : ∃ w u, levelsO (x :: o) = w :: u ∧ w.price = x.price := by
  show ∃ w u, o.foldl addLv (addLv [] x) = w :: u ∧ w.price = x.price
  exact lv_first o _ _ ⟨⟨x.price, x.left⟩, [], rfl, rfl⟩
def headsB : List Lvl → List Lvl → Bool
  | v :: _, w :: _ => decide (v.price < w.price)
  | _, _ => true
theorem lv_best {s : Int} {l : List Order} (hs : isB s = true) (hB : BookB l) {w : Lvl} {u : List Lvl} (h : levelsO (sideO s l) = w :: u) {a : Order} (ha : a ∈ l) (hsa : a.side = s) : ¬ betterB s a.price w.price = true := by
  have hup := sideO_up hs hB.seq
  have ham : a ∈ sideO s l := (sideO_perm _ _).mem_iff.2 (List.mem_filter.2 ⟨ha, by simp [isSide, hsa]⟩)
  rcases hl : sideO s l with _ | ⟨x, o⟩
  · rw [hl] at ham; cases ham
  · rw [hl] at h ham hup
    obtain ⟨w', u', e1, e2⟩ := lv_head (x := x) (o := o)
    rw [e1] at h
    injection h with h _
    rw [← h, e2]
    rcases List.mem_cons.1 ham with rfl | ham
    · simp [betterB]
    · have := (List.pairwise_cons.1 hup).1 a ham
      unfold aheadS at this
      split at this
      · rename_i he; rw [he]; simp [betterB]
      · intro hb
        unfold betterB at this hb
        simp at this hb
        omega
theorem uncr_heads {l : List Order} (hB : BookB l) : decide (uncrB l) = headsB (levelsO (sideO 1 l)) (levelsO (sideO 2 l)) := by
  rcases h1 : levelsO (sideO 1 l) with _ | ⟨v, vs⟩
  · show _ = true
    rw [decide_eq_true_eq]
    intro a ha b hb ea eb
    have ham : a ∈ sideO 1 l := (sideO_perm _ _).mem_iff.2 (List.mem_filter.2 ⟨ha, by simp [isSide, ea]⟩)
    rcases hl : sideO 1 l with _ | ⟨x, o⟩
    · rw [hl] at ham; cases ham
    · obtain ⟨w', u', e1, e2⟩ := lv_head (x := x) (o := o)
      rw [hl, e1] at h1; cases h1
  · rcases h2 : levelsO (sideO 2 l) with _ | ⟨w, ws⟩
    · show _ = true
      rw [decide_eq_true_eq]
      intro a ha b hb ea eb
      have hbm : b ∈ sideO 2 l := (sideO_perm _ _).mem_iff.2 (List.mem_filter.2 ⟨hb, by simp [isSide, eb]⟩)
      rcases hl : sideO 2 l with _ | ⟨x, o⟩
      · rw [hl] at hbm; cases hbm
      · obtain ⟨w', u', e1, e2⟩ := lv_head (x := x) (o := o)
        rw [hl, e1] at h2; cases h2
    · show decide _ = decide (v.price < w.price)
      congr 1
      apply propext
      constructor
      · intro hu
        obtain ⟨x, hx, e1⟩ := lv_price _ v (by rw [h1]; exact List.mem_cons_self)
        obtain ⟨y, hy, e2⟩ := lv_price _ w (by rw [h2]; exact List.mem_cons_self)
        rw [e1, e2]
        exact hu x (sideO_side hx).1 y (sideO_side hy).1 (sideO_side hx).2 (sideO_side hy).2
      · intro hvw a ha b hb ea eb
        have k1 := lv_best (by decide) hB h1 ha ea
        have k2 := lv_best (by decide) hB h2 hb eb
        unfold betterB at k1 k2
        simp at k1 k2
        omega
end Go.Proofs.YtjcnaeengplcbaaGreat

set_option linter.unusedSimpArgs false
set_option linter.unusedVariables false
namespace Go.Proofs.YtjcnaeengplcbaaGreat
open Go Go.Sl
attribute [local irreducible] AW ES EP Ld RetQ
set_option maxRecDepth 100000

theorem memPairP {x y : Chunk} {h : List Chunk} (hx : x ∈ h) (hy : y ∈ h) : ∀ c ∈ [x, y], c ∈ h := fun c hc => by
  rcases List.mem_cons.1 hc with rfl | hc
  · exact hx
  · rw [List.mem_singleton.1 hc]; exact hy
def isPosR (cash : List Int) (rs : List PRow) (who bond : Int) : Bool := decide (0 ≤ who) && (decide (who < cash.length) && (decide (0 ≤ bond) && decide (bond < ((rs[who.toNat]?).map fun r => r.l.length).getD 0)))
theorem pos_is (W : World) (p : Nat) (AC : Option Addr) (cC : Nat) (AR : Option Addr) (cR : Nat) (cash : List Int) (rs : List PRow) (hl : rs.length = cash.length) (who bond : Int) :
    QSpec Tryz.prog W 71 [.pointer (some ⟨p, 0, none⟩), .int .i64 who, .int .i64 bond] [.blk p 132 [.slice AR rs.length cR, .slice AC cash.length cC], .own AR rs.length cR 129 1 (rs.map PRow.hd)] (.bool (isPosR cash rs who bond)) := by
  refine QSpec.ofD (fun h' hs => ?_)
  have m0 := hs _ mem0
  have m1 := hs _ mem1
  have hrd : Reads W h' AR rs.length 1 (rs.map PRow.hd) := Reads.own m1 (by simp) (fun v hv => by
    obtain ⟨y, _, rfl⟩ := List.mem_map.1 hv
    rfl)
  refine spec_body Tryz.func71 rfl rfl Tryz.results71 Tryz.ntmps71 rfl rfl ?_
  refine aw_reads hrd rfl (fun hA => ?_)
  by_cases hw : 0 ≤ who ∧ who < cash.length
  · obtain ⟨r, hr⟩ : ∃ r, rs[who.toNat]? = some r := ⟨rs[who.toNat]'(by omega), List.getElem?_eq_getElem (by omega)⟩
    have hA' := hA (by omega)
    have hix : (rs.map PRow.hd)[who.toNat * 1]? = some (.slice r.A r.l.length r.c) := by simp [hr]; rfl
    have hv : isPosR cash rs who bond = (decide (0 ≤ bond) && decide (bond < r.l.length)) := by
      unfold isPosR
      rw [hr, decide_eq_true hw.1, decide_eq_true hw.2]; rfl
    rw [hv]
    repeat' (first
      | apply aw_seq | apply aw_region | apply aw_ret | apply aw_skip | apply aw_exit | apply aw_block | apply es_nil
      | (apply es_pure hT; (iterate 4 exact rfl)) | (apply es_skip; (iterate 3 exact rfl)) | (apply es_skip0; (iterate 2 exact rfl))
      | (apply es_i64 hT; (iterate 4 exact rfl); (iterate 2 (first | omega | (dsimp only; omega))))
      | (apply aw_draw [] [] hmix; decide +kernel)
      | (apply es_idx hT; (iterate 8 exact rfl); (iterate 2 omega); exact hA')
      | (apply es_load; (iterate 5 exact rfl); exact ld_row hT rfl rfl hrd rfl hix)
      | (apply es_load; (iterate 5 exact rfl); first | (apply ld_blk hT; exact rfl; exact rfl; (repeat (first | exact List.mem_cons_self | exact m0 | apply List.mem_cons_of_mem | apply List.mem_append_right)); exact rfl; exact rfl) | (apply ld_all hT; exact rfl; exact rfl; (repeat (first | exact List.mem_cons_self | exact m0 | apply List.mem_cons_of_mem | apply List.mem_append_right)); exact rfl))
      | (apply es_box; (iterate 5 exact rfl); intro _) | (apply es_alloc hT; (iterate 5 exact rfl); intro _)
      | (apply aw_condT; (iterate 2 exact rfl)) | (apply aw_condF; (iterate 2 exact rfl))
      | (apply es_case; exact rfl; all_goals intro hb; all_goals (fail_if_success (change true = true at hb)); all_goals (fail_if_success (change false = false at hb)); all_goals (try dsimp only at hb); all_goals (try simp only [hb]); all_goals (first | replace hb := of_decide_eq_true hb | replace hb := of_decide_eq_false hb | replace hb := bne_t hb | replace hb := bne_f hb | replace hb := eq_of_beq hb | replace hb := ne_of_beq_false hb | skip); all_goals (try (exfalso; omega)))
      | (apply aw_cond; exact rfl; all_goals intro hb; all_goals (try dsimp only at hb); all_goals (try simp only [hb]); all_goals (first | replace hb := of_decide_eq_true hb | replace hb := of_decide_eq_false hb | replace hb := bne_t hb | replace hb := bne_f hb | replace hb := eq_of_beq hb | replace hb := ne_of_beq_false hb | skip); all_goals (try (exfalso; omega))))
    all_goals first
      | (exfalso; omega)
      | (apply ret1; exact rfl; exact ⟨by (first | (simp_all; done) | (simp; omega)), by (repeat (first | exact dt_end | (apply dt_cons; · (repeat (first | exact sel0 | apply selS | apply selApp))) | apply dt_skip | apply dt_both))⟩)
      | skip
  · have hv : isPosR cash rs who bond = false := by
      unfold isPosR
      by_cases h1 : 0 ≤ who
      · rw [decide_eq_false (show ¬ who < cash.length by omega)]; simp
      · rw [decide_eq_false h1]; simp
    rw [hv]
    repeat' (first
      | apply aw_seq | apply aw_region | apply aw_ret | apply aw_skip | apply aw_exit | apply aw_block | apply es_nil
      | (apply es_pure hT; (iterate 4 exact rfl)) | (apply es_skip; (iterate 3 exact rfl)) | (apply es_skip0; (iterate 2 exact rfl))
      | (apply es_i64 hT; (iterate 4 exact rfl); (iterate 2 (first | omega | (dsimp only; omega))))
      | (apply aw_draw [] [] hmix; decide +kernel)
      | (apply es_load; (iterate 5 exact rfl); first | (apply ld_blk hT; exact rfl; exact rfl; (repeat (first | exact List.mem_cons_self | exact m0 | apply List.mem_cons_of_mem | apply List.mem_append_right)); exact rfl; exact rfl) | (apply ld_all hT; exact rfl; exact rfl; (repeat (first | exact List.mem_cons_self | exact m0 | apply List.mem_cons_of_mem | apply List.mem_append_right)); exact rfl))
      | (apply es_box; (iterate 5 exact rfl); intro _) | (apply es_alloc hT; (iterate 5 exact rfl); intro _)
      | (apply aw_condT; (iterate 2 exact rfl)) | (apply aw_condF; (iterate 2 exact rfl))
      | (apply es_case; exact rfl; all_goals intro hb; all_goals (fail_if_success (change true = true at hb)); all_goals (fail_if_success (change false = false at hb)); all_goals (try dsimp only at hb); all_goals (try simp only [hb]); all_goals (first | replace hb := of_decide_eq_true hb | replace hb := of_decide_eq_false hb | replace hb := bne_t hb | replace hb := bne_f hb | replace hb := eq_of_beq hb | replace hb := ne_of_beq_false hb | skip); all_goals (try (exfalso; omega)))
      | (apply aw_cond; exact rfl; all_goals intro hb; all_goals (try dsimp only at hb); all_goals (try simp only [hb]); all_goals (first | replace hb := of_decide_eq_true hb | replace hb := of_decide_eq_false hb | replace hb := bne_t hb | replace hb := bne_f hb | replace hb := eq_of_beq hb | replace hb := ne_of_beq_false hb | skip); all_goals (try (exfalso; omega))))
    all_goals first
      | (exfalso; omega)
      | (apply ret1; exact rfl; exact ⟨rfl, by (repeat (first | exact dt_end | (apply dt_cons; · (repeat (first | exact sel0 | apply selS | apply selApp))) | apply dt_skip | apply dt_both))⟩)
      | skip
def cashR (cash : List Int) (who : Int) : Int := if who < 0 then 0 else (cash[who.toNat]?).getD 0
theorem pos_Cash (W : World) (p : Nat) (AC : Option Addr) (cC : Nat) (AR : Option Addr) (cR : Nat) (cash : List Int) (rs : List PRow) (hl : rs.length = cash.length) (h0 : ∀ r ∈ rs, 0 < r.l.length) (who : Int) :
    QSpec Tryz.prog W 61 [.pointer (some ⟨p, 0, none⟩), .int .i64 who] [.blk p 132 [.slice AR rs.length cR, .slice AC cash.length cC], .own AR rs.length cR 129 1 (rs.map PRow.hd), .own AC cash.length cC 2 1 (cash.map (Value.int .i64))] (.int .i64 (cashR cash who)) := by
  refine QSpec.ofD (fun h' hs => ?_)
  have m0 := hs _ mem0
  have m1 := hs _ mem1
  have m2 := hs _ mem2
  have hI := (pos_is W p AC cC AR cR cash rs hl who 0).mono (h' := h') (memPairP m0 m1)
  have hrd : Reads W h' AC cash.length 1 (cash.map (Value.int .i64)) := Reads.own m2 (by simp) (fun v hv => by
    obtain ⟨y, _, rfl⟩ := List.mem_map.1 hv
    rfl)
  refine spec_body Tryz.func61 rfl rfl Tryz.results61 Tryz.ntmps61 rfl rfl ?_
  refine aw_reads hrd rfl (fun hA => ?_)
  by_cases hw : 0 ≤ who ∧ who < cash.length
  · obtain ⟨r, hr⟩ : ∃ r, rs[who.toNat]? = some r := ⟨rs[who.toNat]'(by omega), List.getElem?_eq_getElem (by omega)⟩
    obtain ⟨n, hn⟩ : ∃ n, cash[who.toNat]? = some n := ⟨cash[who.toNat]'(by omega), List.getElem?_eq_getElem (by omega)⟩
    have hA' := hA (by omega)
    have hix : (cash.map (Value.int .i64))[who.toNat * 1]? = some (.int .i64 n) := by simp [hn]
    have hrl := h0 r (List.mem_of_getElem? hr)
    have hv : isPosR cash rs who 0 = true := by
      unfold isPosR
      rw [hr, decide_eq_true hw.1, decide_eq_true hw.2]; simp; omega
    have hc : cashR cash who = n := by unfold cashR; rw [if_neg (by omega), hn]; rfl
    rw [hv] at hI
    rw [hc]
    repeat' (first
      | apply aw_seq | apply aw_region | apply aw_ret | apply aw_skip | apply aw_exit | apply aw_block | apply es_nil
      | (apply es_pure hT; (iterate 4 exact rfl)) | (apply es_skip; (iterate 3 exact rfl)) | (apply es_skip0; (iterate 2 exact rfl))
      | (apply es_i64 hT; (iterate 4 exact rfl); (iterate 2 (first | omega | (dsimp only; omega))))
      | (apply aw_draw [] [] hmix; decide +kernel)
      | (apply es_callQ (hs := (hI.mono (by (intro c hc; (repeat (first | exact hc | apply List.mem_cons_of_mem | apply List.mem_append_right)))))); (iterate 7 exact rfl))
      | (apply es_idx hT; (iterate 8 exact rfl); (iterate 2 omega); exact hA')
      | (apply es_load; (iterate 5 exact rfl); exact ld_row hT rfl rfl hrd rfl hix)
      | (apply es_load; (iterate 5 exact rfl); first | (apply ld_blk hT; exact rfl; exact rfl; (repeat (first | exact List.mem_cons_self | exact m0 | apply List.mem_cons_of_mem | apply List.mem_append_right)); exact rfl; exact rfl) | (apply ld_all hT; exact rfl; exact rfl; (repeat (first | exact List.mem_cons_self | exact m0 | apply List.mem_cons_of_mem | apply List.mem_append_right)); exact rfl))
      | (apply es_box; (iterate 5 exact rfl); intro _) | (apply es_alloc hT; (iterate 5 exact rfl); intro _)
      | (apply aw_condT; (iterate 2 exact rfl)) | (apply aw_condF; (iterate 2 exact rfl))
      | (apply es_case; exact rfl; all_goals intro hb; all_goals (fail_if_success (change true = true at hb)); all_goals (fail_if_success (change false = false at hb)); all_goals (try dsimp only at hb); all_goals (try simp only [hb]); all_goals (first | replace hb := of_decide_eq_true hb | replace hb := of_decide_eq_false hb | replace hb := bne_t hb | replace hb := bne_f hb | replace hb := eq_of_beq hb | replace hb := ne_of_beq_false hb | skip); all_goals (try (exfalso; omega)))
      | (apply aw_cond; exact rfl; all_goals intro hb; all_goals (try dsimp only at hb); all_goals (try simp only [hb]); all_goals (first | replace hb := of_decide_eq_true hb | replace hb := of_decide_eq_false hb | replace hb := bne_t hb | replace hb := bne_f hb | replace hb := eq_of_beq hb | replace hb := ne_of_beq_false hb | skip); all_goals (try (exfalso; omega))))
    all_goals first
      | (exfalso; omega)
      | (apply ret1; exact rfl; exact ⟨rfl, by (repeat (first | exact dt_end | (apply dt_cons; · (repeat (first | exact sel0 | apply selS | apply selApp))) | apply dt_skip | apply dt_both))⟩)
      | skip
  · have hv : isPosR cash rs who 0 = false := by
      unfold isPosR
      by_cases h1 : 0 ≤ who
      · rw [decide_eq_false (show ¬ who < cash.length by omega)]; simp
      · rw [decide_eq_false h1]; simp
    have hc : cashR cash who = 0 := by
      unfold cashR
      split
      · rfl
      · rw [List.getElem?_eq_none (by omega)]; rfl
    rw [hv] at hI
    rw [hc]
    repeat' (first
      | apply aw_seq | apply aw_region | apply aw_ret | apply aw_skip | apply aw_exit | apply aw_block | apply es_nil
      | (apply es_pure hT; (iterate 4 exact rfl)) | (apply es_skip; (iterate 3 exact rfl)) | (apply es_skip0; (iterate 2 exact rfl))
      | (apply es_i64 hT; (iterate 4 exact rfl); (iterate 2 (first | omega | (dsimp only; omega))))
      | (apply aw_draw [] [] hmix; decide +kernel)
      | (apply es_callQ (hs := (hI.mono (by (intro c hc; (repeat (first | exact hc | apply List.mem_cons_of_mem | apply List.mem_append_right)))))); (iterate 7 exact rfl))
      | (apply es_load; (iterate 5 exact rfl); first | (apply ld_blk hT; exact rfl; exact rfl; (repeat (first | exact List.mem_cons_self | exact m0 | apply List.mem_cons_of_mem | apply List.mem_append_right)); exact rfl; exact rfl) | (apply ld_all hT; exact rfl; exact rfl; (repeat (first | exact List.mem_cons_self | exact m0 | apply List.mem_cons_of_mem | apply List.mem_append_right)); exact rfl))
      | (apply es_box; (iterate 5 exact rfl); intro _) | (apply es_alloc hT; (iterate 5 exact rfl); intro _)
      | (apply aw_condT; (iterate 2 exact rfl)) | (apply aw_condF; (iterate 2 exact rfl))
      | (apply es_case; exact rfl; all_goals intro hb; all_goals (fail_if_success (change true = true at hb)); all_goals (fail_if_success (change false = false at hb)); all_goals (try dsimp only at hb); all_goals (try simp only [hb]); all_goals (first | replace hb := of_decide_eq_true hb | replace hb := of_decide_eq_false hb | replace hb := bne_t hb | replace hb := bne_f hb | replace hb := eq_of_beq hb | replace hb := ne_of_beq_false hb | skip); all_goals (try (exfalso; omega)))
      | (apply aw_cond; exact rfl; all_goals intro hb; all_goals (try dsimp only at hb); all_goals (try simp only [hb]); all_goals (first | replace hb := of_decide_eq_true hb | replace hb := of_decide_eq_false hb | replace hb := bne_t hb | replace hb := bne_f hb | replace hb := eq_of_beq hb | replace hb := ne_of_beq_false hb | skip); all_goals (try (exfalso; omega))))
    all_goals first
      | (exfalso; omega)
      | (apply ret1; exact rfl; exact ⟨rfl, by (repeat (first | exact dt_end | (apply dt_cons; · (repeat (first | exact sel0 | apply selS | apply selApp))) | apply dt_skip | apply dt_both))⟩)
      | skip
end Go.Proofs.YtjcnaeengplcbaaGreat

set_option linter.unusedSimpArgs false
set_option linter.unusedVariables false
namespace Go.Proofs.YtjcnaeengplcbaaGreat
open Go Go.Sl

def putAll : List TradeR → Ps → Option Ps
  | [], p => some p
  | t :: l, p => if putE p t = 0 then putAll l (putP p t) else none
def zeroPs (np nb : Nat) : Ps := ⟨List.replicate np 0, List.replicate np (List.replicate nb 0)⟩
def eqOne (nb : Nat) (w p : Ps) (i : Nat) : Bool := cashOf w i == cashOf p i && (List.range nb).all fun (k : Nat) => posOf w i k == posOf p i k
def eqPs (np nb : Nat) (w p : Ps) : Bool := (List.range np).all (eqOne nb w p)
def sumsV (np nb : Nat) (l : List TradeR) (p : Ps) : Bool := match putAll l (zeroPs np nb) with
  | none => false
  | some w => eqPs np nb w p
/-- who has what, of so many parties and bonds, in numbers that an int64 holds -/
structure PsOK (np nb : Nat) (p : Ps) : Prop where
  nc : p.cash.length = np
  np : p.pos.length = np
  row : ∀ r ∈ p.pos, r.length = nb
  wc : ∀ n ∈ p.cash, inW n
  wr : ∀ r ∈ p.pos, ∀ n ∈ r, inW n
theorem zeroPs_ok (np nb : Nat) : PsOK np nb (zeroPs np nb) := by
  refine ⟨by simp [zeroPs], by simp [zeroPs], fun r hr => ?_, fun n hn => ?_, fun r hr n hn => ?_⟩
  · rw [(List.mem_replicate.1 hr).2]; simp
  · rw [(List.mem_replicate.1 hn).2]; unfold inW; omega
  · rw [(List.mem_replicate.1 hr).2] at hn
    rw [(List.mem_replicate.1 hn).2]; unfold inW; omega
theorem memSet {α : Type} {l : List α} {i : Nat} {x y : α} (h : y ∈ l.set i x) : y = x ∨ y ∈ l := (List.mem_or_eq_of_mem_set h).symm
theorem at0M {α : Type} {l : List α} {i : Int} {x : α} (h : at0 l i = some x) : x ∈ l := by
  unfold at0 at h
  split at h
  · cases h
  · exact List.mem_of_getElem? h
theorem at0_le {α : Type} {l : List α} {i : Int} {x : α} (h : at0 l i = some x) : 0 ≤ i ∧ i < l.length := by
  unfold at0 at h
  split at h
  · cases h
  · have := (List.getElem?_eq_some_iff.1 h).1
    omega
theorem at0_in {α : Type} {l : List α} {i : Int} (h0 : 0 ≤ i) (h1 : i < l.length) : at0 l i = some (l[i.toNat]'(by omega)) := by
  unfold at0
  rw [if_neg (by omega)]
  exact List.getElem?_eq_getElem _
theorem isPos_iff {np nb : Nat} {p : Ps} (h : PsOK np nb p) {who bond : Int} : isPos p who bond = true ↔ (0 ≤ who ∧ who < np) ∧ 0 ≤ bond ∧ bond < nb := by
  unfold isPos
  simp only [Bool.and_eq_true, decide_eq_true_eq]
  have h1 := h.nc
  have h2 := h.np
  constructor
  · rintro ⟨a, b, c, d⟩
    rw [at0_in a (by omega)] at d
    have := h.row _ (List.getElem_mem (l := p.pos) (n := who.toNat) (by omega))
    simp only [Option.getD_some] at d
    omega
  · rintro ⟨⟨a, b⟩, c, d⟩
    refine ⟨a, by omega, c, ?_⟩
    rw [at0_in a (by omega)]
    have := h.row _ (List.getElem_mem (l := p.pos) (n := who.toNat) (by omega))
    simp only [Option.getD_some]
    omega
theorem setRow_all {l : List (List Int)} {who bond n : Int} {b : Nat} (h : ∀ r ∈ l, r.length = b ∧ ∀ n ∈ r, inW n) (hw : 0 ≤ who ∧ who < l.length) (hn : inW n) : ∀ r ∈ setRow l who bond n, r.length = b ∧ ∀ n ∈ r, inW n := by
  intro r hr
  unfold setRow at hr
  rcases memSet hr with rfl | hr
  · have hx := at0_in hw.1 hw.2
    obtain ⟨h1, h2⟩ := h _ (at0M hx)
    rw [hx]
    refine ⟨by simpa using h1, fun m hm => ?_⟩
    rcases memSet hm with rfl | hm
    · exact hn
    · exact h2 m hm
  · exact h r hr
theorem putE_parts {p : Ps} {t : TradeR} (h : putE p t = 0) : isPos p t.buyer t.bond = true ∧ isPos p t.seller t.bond = true ∧ t.buyer ≠ t.seller ∧ 1 ≤ t.price ∧ 1 ≤ t.qty ∧ inI (t.price * t.qty) = true ∧ inI (posOf p t.buyer t.bond + t.qty) = true ∧ inI (posOf p t.seller t.bond - t.qty) = true ∧ inI (cashOf p t.buyer - t.price * t.qty) = true ∧ inI (cashOf p t.seller + t.price * t.qty) = true := by
  unfold putE at h
  split at h
  · cases h
  · rename_i h1
    split at h
    · rename_i h2
      simp only [Bool.and_eq_true] at h2
      simp only [not_or, Bool.not_eq_false] at h1
      exact ⟨h1.1, h1.2.1, h1.2.2.1, by omega, by omega, h2.1.1.1.1, h2.1.1.1.2, h2.1.1.2, h2.1.2, h2.2⟩
    · cases h
theorem putPs_ok {np nb : Nat} {p : Ps} (h : PsOK np nb p) (t : TradeR) : PsOK np nb (putP p t) := by
  unfold putP
  split
  · rename_i h0
    obtain ⟨b1, b2, _, _, _, _, a2, a3, a4, a5⟩ := putE_parts h0
    have b1 := (isPos_iff h).1 b1
    have b2 := (isPos_iff h).1 b2
    have hn := h.np
    have hrow : ∀ r ∈ setRow (setRow p.pos t.buyer t.bond (posOf p t.buyer t.bond + t.qty)) t.seller t.bond (posOf p t.seller t.bond - t.qty), r.length = nb ∧ ∀ n ∈ r, inW n := by
      refine setRow_all (setRow_all (fun r hr => ⟨h.row r hr, h.wr r hr⟩) (by omega) (inI_t a2)) ?_ (inI_t a3)
      unfold setRow
      simp only [List.length_set]
      omega
    refine ⟨by simp [h.nc], by unfold setRow; simp [h.np], fun r hr => (hrow r hr).1, fun n hn => ?_, fun r hr => (hrow r hr).2⟩
    rcases memSet hn with rfl | hn
    · exact inI_t a5
    · rcases memSet hn with rfl | hn
      · exact inI_t a4
      · exact h.wc n hn
  · exact h
theorem putAll_step {l : List TradeR} {k : Nat} {t : TradeR} (ht : l[k]? = some t) (p : Ps) : putAll (l.drop k) p = if putE p t = 0 then putAll (l.drop (k + 1)) (putP p t) else none := by
  obtain ⟨hk, rfl⟩ := List.getElem?_eq_some_iff.1 ht
  rw [List.drop_eq_getElem_cons hk]
  rfl
end Go.Proofs.YtjcnaeengplcbaaGreat

set_option linter.unusedSimpArgs false
set_option linter.unusedVariables false
namespace Go.Proofs.YtjcnaeengplcbaaGreat
open Go Go.Sl Go.RowKit
namespace MulK
theorem maskN (a : Nat) (ha : a < 18446744073709551616) : bits .and .u64 (a : Int) 4294967295 = ((a % 4294967296 : Nat) : Int) := by
  have h := bits_and_u64_nat a 4294967295 ha (by omega)
  have e : a &&& 4294967295 = a % 4294967296 := Nat.and_two_pow_sub_one_eq_mod a 32
  rw [e] at h
  exact h
theorem divN (a : Nat) : (a : Int) / 4294967296 = ((a / 4294967296 : Nat) : Int) := by omega
theorem mulN (a b : Nat) : (a : Int) * (b : Int) = ((a * b : Nat) : Int) := (Int.natCast_mul a b).symm
theorem addN (a b : Nat) : (a : Int) + (b : Int) = ((a + b : Nat) : Int) := (Int.natCast_add a b).symm
theorem wrapN (a : Nat) (ha : a < 18446744073709551616) : IntKind.u64.wrap (a : Int) = (a : Int) := by rw [IntKind.wrap_u64]; omega
theorem wrapM (a : Nat) : IntKind.u64.wrap (a : Int) = ((a % 18446744073709551616 : Nat) : Int) := by rw [IntKind.wrap_u64]; omega
end MulK
set_option maxHeartbeats 1000000 in
theorem mulK (x y : Nat) (hx : x < 18446744073709551616) (hy : y < 18446744073709551616) (w : World) :
    Calls Tryz.prog 136 #[.int .u64 x, .int .u64 y] w fun e w' => e = .returned (.tuple #[.int .u64 ((x * y / 18446744073709551616 : Nat) : Int), .int .u64 ((x * y % 18446744073709551616 : Nat) : Int)]) ∧ w' = w := by
  obtain ⟨bd, bt, bw, hhi⟩ := Lib.mul64_hi x y hx hy
  have ba := Lib.half_mul_le (a := x / 4294967296) (b := y / 4294967296) (by omega) (by omega)
  have bb := Lib.half_mul_le (a := x / 4294967296) (b := y % 4294967296) (by omega) (by omega)
  have bc := Lib.half_mul_le (a := x % 4294967296) (b := y / 4294967296) (by omega) (by omega)
  have ba' : x / 4294967296 * (y / 4294967296) < 18446744073709551616 := by omega
  have bb' : x / 4294967296 * (y % 4294967296) < 18446744073709551616 := by omega
  have bc' : x % 4294967296 * (y / 4294967296) < 18446744073709551616 := by omega
  have bh1 : x / 4294967296 * (y / 4294967296) + (x / 4294967296 * (y % 4294967296) + x % 4294967296 * (y % 4294967296) / 4294967296) / 4294967296 < 18446744073709551616 := by omega
  have bh : x / 4294967296 * (y / 4294967296) + (x / 4294967296 * (y % 4294967296) + x % 4294967296 * (y % 4294967296) / 4294967296) / 4294967296 + ((x / 4294967296 * (y % 4294967296) + x % 4294967296 * (y % 4294967296) / 4294967296) % 4294967296 + x % 4294967296 * (y / 4294967296)) / 4294967296 < 18446744073709551616 := by omega
  go_enter Tryz.func136, Tryz.ntmps136
  go_wp2
  simp only [MulK.maskN x hx, MulK.maskN y hy, MulK.divN, MulK.mulN, MulK.addN, MulK.wrapN _ bd, MulK.wrapN _ bb', MulK.wrapN _ bt, MulK.maskN _ bt, MulK.wrapN _ bc', MulK.wrapN _ bw, MulK.wrapN _ ba', MulK.wrapN _ bh1, MulK.wrapN _ bh, MulK.wrapM (x * y)]
  rw [hhi]
  go_ret2
  exact ⟨rfl, rfl⟩
theorem mul64 (W : World) (x y : Nat) (hx : x < 18446744073709551616) (hy : y < 18446744073709551616) :
    QSpec Tryz.prog W 136 [.int .u64 x, .int .u64 y] [] (.tuple #[.int .u64 ((x * y / 18446744073709551616 : Nat) : Int), .int .u64 ((x * y % 18446744073709551616 : Nat) : Int)]) :=
  ⟨⟨_, Tryz.func136, rfl, rfl⟩, fun h' hs w hw => (mulK x y hx hy w).mono fun e w' ⟨he, hww⟩ => ⟨he, by rw [hww]; exact hw⟩⟩
end Go.Proofs.YtjcnaeengplcbaaGreat

set_option linter.unusedSimpArgs false
set_option linter.unusedVariables false
namespace Go.Proofs.YtjcnaeengplcbaaGreat
open Go Go.Sl
attribute [local irreducible] AW ES EP Ld RetQ
set_option maxRecDepth 100000

/-- a number of 128 digits -/
def wideE (n : Nat) : List Value := [.int .u64 ((n / 18446744073709551616 : Nat) : Int), .int .u64 ((n % 18446744073709551616 : Nat) : Int)]
/-- a number, or none -/
def gotW (n : Option Nat) : Value := match n with
  | some n => .tuple #[.agg (wideE n).toArray, .bool true]
  | none => .tuple #[.agg (wideE 0).toArray, .bool false]

theorem fix_Times (W : World) (a b : Nat) (ha : a ≤ 9223372036854775807) (hb : b ≤ 9223372036854775807) :
    QSpec Tryz.prog W 72 [.int .i64 a, .int .i64 b] [] (gotW (some (a * b))) := by
  refine QSpec.ofD (fun h' hs => ?_)
  have hm := (mul64 W a b (by omega) (by omega))
  refine spec_body Tryz.func72 rfl rfl Tryz.results72 Tryz.ntmps72 rfl rfl ?_
  repeat' (first
    | apply aw_seq | apply aw_region | apply aw_ret | apply aw_skip | apply aw_exit | apply aw_block | apply es_nil
    | (apply es_pure hT; (iterate 4 exact rfl)) | (apply es_skip; (iterate 3 exact rfl)) | (apply es_skip0; (iterate 2 exact rfl))
    | (apply es_i64 hT; (iterate 4 exact rfl); (iterate 2 (first | omega | (dsimp only; omega))))
    | (apply aw_draw [] [] hmix; decide +kernel)
    | (apply es_alloc hT; (iterate 5 exact rfl); intro g4)
    | (apply es_u64 hT; (iterate 4 exact rfl); (iterate 2 omega))
    | (apply es_callQ (hs := (hm.mono (by simp))); (iterate 7 exact rfl))
    | (apply es_build hT; (iterate 4 exact rfl))
    | (apply es_store hT; (iterate 6 exact rfl); (repeat (first | exact sel0 | apply selS | apply selApp)); (iterate 3 exact rfl); exact Nat.le_of_ble_eq_true rfl)
    | (apply es_load; (iterate 5 exact rfl); first | (apply ld_blk hT; exact rfl; exact rfl; (repeat (first | exact List.mem_cons_self | apply List.mem_cons_of_mem | apply List.mem_append_right)); exact rfl; exact rfl) | (apply ld_all hT; exact rfl; exact rfl; (repeat (first | exact List.mem_cons_self | apply List.mem_cons_of_mem | apply List.mem_append_right)); exact rfl))
    | (apply es_box; (iterate 5 exact rfl); intro _) | (apply es_alloc hT; (iterate 5 exact rfl); intro _)
    | (apply aw_condT; (iterate 2 exact rfl)) | (apply aw_condF; (iterate 2 exact rfl))
    | (apply es_case; exact rfl; all_goals intro hb; all_goals (fail_if_success (change true = true at hb)); all_goals (fail_if_success (change false = false at hb)); all_goals (try dsimp only at hb); all_goals (try simp only [hb]); all_goals (first | replace hb := of_decide_eq_true hb | replace hb := of_decide_eq_false hb | replace hb := bne_t hb | replace hb := bne_f hb | replace hb := eq_of_beq hb | replace hb := ne_of_beq_false hb | skip); all_goals (try (exfalso; omega)))
    | (apply aw_cond; exact rfl; all_goals intro hb; all_goals (try dsimp only at hb); all_goals (try simp only [hb]); all_goals (first | replace hb := of_decide_eq_true hb | replace hb := of_decide_eq_false hb | replace hb := bne_t hb | replace hb := bne_f hb | replace hb := eq_of_beq hb | replace hb := ne_of_beq_false hb | skip); all_goals (try (exfalso; omega))))
  all_goals first
    | (exfalso; omega)
    | (apply ret2c; exact rfl; exact ld_all hT rfl rfl mem0 rfl; exact rfl; exact ⟨rfl, dt_skip dt_end⟩)
end Go.Proofs.YtjcnaeengplcbaaGreat

set_option linter.unusedSimpArgs false
set_option linter.unusedVariables false
namespace Go.Proofs.YtjcnaeengplcbaaGreat
open Go Go.Sl
attribute [local irreducible] AW ES EP Ld RetQ
set_option maxRecDepth 100000

def okI (n : Int) : Value := .tuple #[.int .i64 (if inI n then n else 0), .bool (inI n)]
theorem fix_AddG (W : World) (a b : Int) (ha : inW a) (hb : inW b) : QSpec Tryz.prog W 74 [.int .i64 a, .int .i64 b] [] (okI (a + b)) := by
  unfold inW at *
  refine QSpec.ofD (fun h' hs => ?_)
  unfold okI
  cases hI : inI (a + b)
  · have hr := inI_f hI
    refine spec_body Tryz.func74 rfl rfl Tryz.results74 Tryz.ntmps74 rfl rfl ?_
    repeat' (first
      | apply aw_seq | apply aw_region | apply aw_ret | apply aw_skip | apply aw_exit | apply aw_block | apply es_nil
      | (apply es_pure hT; (iterate 4 exact rfl)) | (apply es_skip; (iterate 3 exact rfl)) | (apply es_skip0; (iterate 2 exact rfl))
      | (apply es_i64 hT; (iterate 4 exact rfl); (iterate 2 (first | omega | (dsimp only; omega))))
      | (apply aw_draw [] [] hmix; decide +kernel)
      | (apply es_load; (iterate 5 exact rfl); first | (apply ld_blk hT; exact rfl; exact rfl; (repeat (first | exact List.mem_cons_self | apply List.mem_cons_of_mem | apply List.mem_append_right)); exact rfl; exact rfl) | (apply ld_all hT; exact rfl; exact rfl; (repeat (first | exact List.mem_cons_self | apply List.mem_cons_of_mem | apply List.mem_append_right)); exact rfl))
      | (apply es_box; (iterate 5 exact rfl); intro _) | (apply es_alloc hT; (iterate 5 exact rfl); intro _)
      | (apply aw_condT; (iterate 2 exact rfl)) | (apply aw_condF; (iterate 2 exact rfl))
      | (apply es_case; exact rfl; all_goals intro hb; all_goals (fail_if_success (change true = true at hb)); all_goals (fail_if_success (change false = false at hb)); all_goals (try dsimp only at hb); all_goals (try simp only [hb]); all_goals (first | replace hb := of_decide_eq_true hb | replace hb := of_decide_eq_false hb | replace hb := bne_t hb | replace hb := bne_f hb | replace hb := eq_of_beq hb | replace hb := ne_of_beq_false hb | skip); all_goals (try (exfalso; omega)))
      | (apply aw_cond; exact rfl; all_goals intro hb; all_goals (try dsimp only at hb); all_goals (try simp only [hb]); all_goals (first | replace hb := of_decide_eq_true hb | replace hb := of_decide_eq_false hb | replace hb := bne_t hb | replace hb := bne_f hb | replace hb := eq_of_beq hb | replace hb := ne_of_beq_false hb | skip); all_goals (try (exfalso; omega))))
    all_goals first
      | (exfalso; omega)
      | (apply ret2; exact rfl; exact rfl; exact ⟨rfl, by (repeat (first | exact dt_end | (apply dt_cons; · (repeat (first | exact sel0 | apply selS | apply selApp))) | apply dt_skip | apply dt_both))⟩)
      | skip
  · have hr := inI_t hI
    refine spec_body Tryz.func74 rfl rfl Tryz.results74 Tryz.ntmps74 rfl rfl ?_
    repeat' (first
      | apply aw_seq | apply aw_region | apply aw_ret | apply aw_skip | apply aw_exit | apply aw_block | apply es_nil
      | (apply es_pure hT; (iterate 4 exact rfl)) | (apply es_skip; (iterate 3 exact rfl)) | (apply es_skip0; (iterate 2 exact rfl))
      | (apply es_i64 hT; (iterate 4 exact rfl); (iterate 2 (first | omega | (dsimp only; omega))))
      | (apply aw_draw [] [] hmix; decide +kernel)
      | (apply es_load; (iterate 5 exact rfl); first | (apply ld_blk hT; exact rfl; exact rfl; (repeat (first | exact List.mem_cons_self | apply List.mem_cons_of_mem | apply List.mem_append_right)); exact rfl; exact rfl) | (apply ld_all hT; exact rfl; exact rfl; (repeat (first | exact List.mem_cons_self | apply List.mem_cons_of_mem | apply List.mem_append_right)); exact rfl))
      | (apply es_box; (iterate 5 exact rfl); intro _) | (apply es_alloc hT; (iterate 5 exact rfl); intro _)
      | (apply aw_condT; (iterate 2 exact rfl)) | (apply aw_condF; (iterate 2 exact rfl))
      | (apply es_case; exact rfl; all_goals intro hb; all_goals (fail_if_success (change true = true at hb)); all_goals (fail_if_success (change false = false at hb)); all_goals (try dsimp only at hb); all_goals (try simp only [hb]); all_goals (first | replace hb := of_decide_eq_true hb | replace hb := of_decide_eq_false hb | replace hb := bne_t hb | replace hb := bne_f hb | replace hb := eq_of_beq hb | replace hb := ne_of_beq_false hb | skip); all_goals (try (exfalso; omega)))
      | (apply aw_cond; exact rfl; all_goals intro hb; all_goals (try dsimp only at hb); all_goals (try simp only [hb]); all_goals (first | replace hb := of_decide_eq_true hb | replace hb := of_decide_eq_false hb | replace hb := bne_t hb | replace hb := bne_f hb | replace hb := eq_of_beq hb | replace hb := ne_of_beq_false hb | skip); all_goals (try (exfalso; omega))))
    all_goals first
      | (exfalso; omega)
      | (apply ret2; exact rfl; exact rfl; exact ⟨rfl, by (repeat (first | exact dt_end | (apply dt_cons; · (repeat (first | exact sel0 | apply selS | apply selApp))) | apply dt_skip | apply dt_both))⟩)
      | skip
theorem fix_SubG (W : World) (a b : Int) (ha : inW a) (hb : inW b) : QSpec Tryz.prog W 75 [.int .i64 a, .int .i64 b] [] (okI (a - b)) := by
  unfold inW at *
  refine QSpec.ofD (fun h' hs => ?_)
  unfold okI
  cases hI : inI (a - b)
  · have hr := inI_f hI
    refine spec_body Tryz.func75 rfl rfl Tryz.results75 Tryz.ntmps75 rfl rfl ?_
    repeat' (first
      | apply aw_seq | apply aw_region | apply aw_ret | apply aw_skip | apply aw_exit | apply aw_block | apply es_nil
      | (apply es_pure hT; (iterate 4 exact rfl)) | (apply es_skip; (iterate 3 exact rfl)) | (apply es_skip0; (iterate 2 exact rfl))
      | (apply es_i64 hT; (iterate 4 exact rfl); (iterate 2 (first | omega | (dsimp only; omega))))
      | (apply aw_draw [] [] hmix; decide +kernel)
      | (apply es_load; (iterate 5 exact rfl); first | (apply ld_blk hT; exact rfl; exact rfl; (repeat (first | exact List.mem_cons_self | apply List.mem_cons_of_mem | apply List.mem_append_right)); exact rfl; exact rfl) | (apply ld_all hT; exact rfl; exact rfl; (repeat (first | exact List.mem_cons_self | apply List.mem_cons_of_mem | apply List.mem_append_right)); exact rfl))
      | (apply es_box; (iterate 5 exact rfl); intro _) | (apply es_alloc hT; (iterate 5 exact rfl); intro _)
      | (apply aw_condT; (iterate 2 exact rfl)) | (apply aw_condF; (iterate 2 exact rfl))
      | (apply es_case; exact rfl; all_goals intro hb; all_goals (fail_if_success (change true = true at hb)); all_goals (fail_if_success (change false = false at hb)); all_goals (try dsimp only at hb); all_goals (try simp only [hb]); all_goals (first | replace hb := of_decide_eq_true hb | replace hb := of_decide_eq_false hb | replace hb := bne_t hb | replace hb := bne_f hb | replace hb := eq_of_beq hb | replace hb := ne_of_beq_false hb | skip); all_goals (try (exfalso; omega)))
      | (apply aw_cond; exact rfl; all_goals intro hb; all_goals (try dsimp only at hb); all_goals (try simp only [hb]); all_goals (first | replace hb := of_decide_eq_true hb | replace hb := of_decide_eq_false hb | replace hb := bne_t hb | replace hb := bne_f hb | replace hb := eq_of_beq hb | replace hb := ne_of_beq_false hb | skip); all_goals (try (exfalso; omega))))
    all_goals first
      | (exfalso; omega)
      | (apply ret2; exact rfl; exact rfl; exact ⟨rfl, by (repeat (first | exact dt_end | (apply dt_cons; · (repeat (first | exact sel0 | apply selS | apply selApp))) | apply dt_skip | apply dt_both))⟩)
      | skip
  · have hr := inI_t hI
    refine spec_body Tryz.func75 rfl rfl Tryz.results75 Tryz.ntmps75 rfl rfl ?_
    repeat' (first
      | apply aw_seq | apply aw_region | apply aw_ret | apply aw_skip | apply aw_exit | apply aw_block | apply es_nil
      | (apply es_pure hT; (iterate 4 exact rfl)) | (apply es_skip; (iterate 3 exact rfl)) | (apply es_skip0; (iterate 2 exact rfl))
      | (apply es_i64 hT; (iterate 4 exact rfl); (iterate 2 (first | omega | (dsimp only; omega))))
      | (apply aw_draw [] [] hmix; decide +kernel)
      | (apply es_load; (iterate 5 exact rfl); first | (apply ld_blk hT; exact rfl; exact rfl; (repeat (first | exact List.mem_cons_self | apply List.mem_cons_of_mem | apply List.mem_append_right)); exact rfl; exact rfl) | (apply ld_all hT; exact rfl; exact rfl; (repeat (first | exact List.mem_cons_self | apply List.mem_cons_of_mem | apply List.mem_append_right)); exact rfl))
      | (apply es_box; (iterate 5 exact rfl); intro _) | (apply es_alloc hT; (iterate 5 exact rfl); intro _)
      | (apply aw_condT; (iterate 2 exact rfl)) | (apply aw_condF; (iterate 2 exact rfl))
      | (apply es_case; exact rfl; all_goals intro hb; all_goals (fail_if_success (change true = true at hb)); all_goals (fail_if_success (change false = false at hb)); all_goals (try dsimp only at hb); all_goals (try simp only [hb]); all_goals (first | replace hb := of_decide_eq_true hb | replace hb := of_decide_eq_false hb | replace hb := bne_t hb | replace hb := bne_f hb | replace hb := eq_of_beq hb | replace hb := ne_of_beq_false hb | skip); all_goals (try (exfalso; omega)))
      | (apply aw_cond; exact rfl; all_goals intro hb; all_goals (try dsimp only at hb); all_goals (try simp only [hb]); all_goals (first | replace hb := of_decide_eq_true hb | replace hb := of_decide_eq_false hb | replace hb := bne_t hb | replace hb := bne_f hb | replace hb := eq_of_beq hb | replace hb := ne_of_beq_false hb | skip); all_goals (try (exfalso; omega))))
    all_goals first
      | (exfalso; omega)
      | (apply ret2; exact rfl; exact rfl; exact ⟨rfl, by (repeat (first | exact dt_end | (apply dt_cons; · (repeat (first | exact sel0 | apply selS | apply selApp))) | apply dt_skip | apply dt_both))⟩)
      | skip
theorem fix_Narrow (W : World) (n : Nat) (hn : n < 340282366920938463463374607431768211456) : QSpec Tryz.prog W 73 [.agg (wideE n).toArray] [] (okI n) := by
  refine QSpec.ofD (fun h' hs => ?_)
  unfold okI
  cases hI : inI (n : Int)
  · have hr := inI_f hI
    refine spec_body Tryz.func73 rfl rfl Tryz.results73 Tryz.ntmps73 rfl rfl ?_
    repeat' (first
      | apply aw_seq | apply aw_region | apply aw_ret | apply aw_skip | apply aw_exit | apply aw_block | apply es_nil
      | (apply es_pure hT; (iterate 4 exact rfl)) | (apply es_skip; (iterate 3 exact rfl)) | (apply es_skip0; (iterate 2 exact rfl))
      | (apply es_i64 hT; (iterate 4 exact rfl); (iterate 2 (first | omega | (dsimp only; omega))))
      | (apply aw_draw [] [] hmix; decide +kernel)
      | (apply es_load; (iterate 5 exact rfl); first | (apply ld_blk hT; exact rfl; exact rfl; (repeat (first | exact List.mem_cons_self | apply List.mem_cons_of_mem | apply List.mem_append_right)); exact rfl; exact rfl) | (apply ld_all hT; exact rfl; exact rfl; (repeat (first | exact List.mem_cons_self | apply List.mem_cons_of_mem | apply List.mem_append_right)); exact rfl))
      | (apply es_box; (iterate 5 exact rfl); intro _) | (apply es_alloc hT; (iterate 5 exact rfl); intro _)
      | (apply aw_condT; (iterate 2 exact rfl)) | (apply aw_condF; (iterate 2 exact rfl))
      | (apply es_case; exact rfl; all_goals intro hb; all_goals (fail_if_success (change true = true at hb)); all_goals (fail_if_success (change false = false at hb)); all_goals (try dsimp only at hb); all_goals (try simp only [hb]); all_goals (first | replace hb := of_decide_eq_true hb | replace hb := of_decide_eq_false hb | replace hb := bne_t hb | replace hb := bne_f hb | replace hb := eq_of_beq hb | replace hb := ne_of_beq_false hb | skip); all_goals (try (exfalso; omega)))
      | (apply aw_cond; exact rfl; all_goals intro hb; all_goals (try dsimp only at hb); all_goals (try simp only [hb]); all_goals (first | replace hb := of_decide_eq_true hb | replace hb := of_decide_eq_false hb | replace hb := bne_t hb | replace hb := bne_f hb | replace hb := eq_of_beq hb | replace hb := ne_of_beq_false hb | skip); all_goals (try (exfalso; omega))))
    all_goals first
      | (exfalso; omega)
      | (apply ret2; exact rfl; exact rfl; exact ⟨rfl, by (repeat (first | exact dt_end | (apply dt_cons; · (repeat (first | exact sel0 | apply selS | apply selApp))) | apply dt_skip | apply dt_both))⟩)
      | skip
  · have hr := inI_t hI
    refine spec_body Tryz.func73 rfl rfl Tryz.results73 Tryz.ntmps73 rfl rfl ?_
    repeat' (first
      | apply aw_seq | apply aw_region | apply aw_ret | apply aw_skip | apply aw_exit | apply aw_block | apply es_nil
      | (apply es_pure hT; (iterate 4 exact rfl)) | (apply es_skip; (iterate 3 exact rfl)) | (apply es_skip0; (iterate 2 exact rfl))
      | (apply es_i64 hT; (iterate 4 exact rfl); (iterate 2 (first | omega | (dsimp only; omega))))
      | (apply aw_draw [] [] hmix; decide +kernel)
      | (apply es_load; (iterate 5 exact rfl); first | (apply ld_blk hT; exact rfl; exact rfl; (repeat (first | exact List.mem_cons_self | apply List.mem_cons_of_mem | apply List.mem_append_right)); exact rfl; exact rfl) | (apply ld_all hT; exact rfl; exact rfl; (repeat (first | exact List.mem_cons_self | apply List.mem_cons_of_mem | apply List.mem_append_right)); exact rfl))
      | (apply es_box; (iterate 5 exact rfl); intro _) | (apply es_alloc hT; (iterate 5 exact rfl); intro _)
      | (apply aw_condT; (iterate 2 exact rfl)) | (apply aw_condF; (iterate 2 exact rfl))
      | (apply es_case; exact rfl; all_goals intro hb; all_goals (fail_if_success (change true = true at hb)); all_goals (fail_if_success (change false = false at hb)); all_goals (try dsimp only at hb); all_goals (try simp only [hb]); all_goals (first | replace hb := of_decide_eq_true hb | replace hb := of_decide_eq_false hb | replace hb := bne_t hb | replace hb := bne_f hb | replace hb := eq_of_beq hb | replace hb := ne_of_beq_false hb | skip); all_goals (try (exfalso; omega)))
      | (apply aw_cond; exact rfl; all_goals intro hb; all_goals (try dsimp only at hb); all_goals (try simp only [hb]); all_goals (first | replace hb := of_decide_eq_true hb | replace hb := of_decide_eq_false hb | replace hb := bne_t hb | replace hb := bne_f hb | replace hb := eq_of_beq hb | replace hb := ne_of_beq_false hb | skip); all_goals (try (exfalso; omega))))
    all_goals first
      | (exfalso; omega)
      | (apply ret2; exact rfl; exact rfl; exact ⟨by simp [Nat.mod_eq_of_lt (show n < 18446744073709551616 by omega)], by (repeat (first | exact dt_end | (apply dt_cons; · (repeat (first | exact sel0 | apply selS | apply selApp))) | apply dt_skip | apply dt_both))⟩)
      | skip
end Go.Proofs.YtjcnaeengplcbaaGreat

set_option linter.unusedSimpArgs false
set_option linter.unusedVariables false
namespace Go.Sl
open Go Go.RowKit
variable {P : Program} {W : World} {h h' F : List Chunk}

theorem Reads.enc {α : Type} {enc : α → List Value} {k : Nat} (hk : ∀ x, (enc x).length = k) (h1 : ∀ x, ∀ v ∈ enc x, v.oneCell' = true) {A : Option Addr} {n c : Nat} {t : TypeId} {l : List α} (hm : Chunk.own A n c t k (l.flatMap enc) ∈ h) (hn : l.length = n) : Reads W h A n k (l.flatMap enc) :=
  Reads.own hm (by rw [flat_len hk, hn]) (fun v hv => by
    obtain ⟨y, _, hy⟩ := List.mem_flatMap.1 hv
    exact h1 y v hy)
theorem Reads.ints {A : Option Addr} {n c : Nat} {t : TypeId} {kd : IntKind} {l : List Int} (hm : Chunk.own A n c t 1 (l.map (Value.int kd)) ∈ h) (hn : l.length = n) : Reads W h A n 1 (l.map (Value.int kd)) :=
  Reads.own hm (by simp [hn]) (fun v hv => by
    obtain ⟨y, _, rfl⟩ := List.mem_map.1 hv
    rfl)
theorem mem1P {x : Chunk} (hx : x ∈ h) : ∀ c ∈ [x], c ∈ h := fun c hc => by
  rw [List.mem_singleton.1 hc]; exact hx
theorem mem2P {x y : Chunk} (hx : x ∈ h) (hy : y ∈ h) : ∀ c ∈ [x, y], c ∈ h := fun c hc => by
  rcases List.mem_cons.1 hc with rfl | hc
  · exact hx
  · exact mem1P hy c hc
theorem mem3P {x y z : Chunk} (hx : x ∈ h) (hy : y ∈ h) (hz : z ∈ h) : ∀ c ∈ [x, y, z], c ∈ h := fun c hc => by
  rcases List.mem_cons.1 hc with rfl | hc
  · exact hx
  · exact mem2P hy hz c hc
/-- a value of a row of single numbers -/
theorem intAt {kd : IntKind} {l : List Int} {i : Nat} {n : Int} (h : l[i]? = some n) : (l.map (Value.int kd))[i * 1]? = some (.int kd n) := by simp [h]
theorem lay_set1 {cs : List Value} {i : Nat} {v : Value} (h : i < cs.length) : lay cs (i * 1) [v] = cs.set i v := by
  rw [Nat.mul_one]; exact lay_one (by omega)
end Go.Sl

set_option linter.unusedSimpArgs false
set_option linter.unusedVariables false
namespace Go.Proofs.YtjcnaeengplcbaaGreat
open Go Go.Sl
attribute [local irreducible] AW ES EP Ld RetQ
set_option maxRecDepth 100000

def psOf (cash : List Int) (rs : List PRow) : Ps := ⟨cash, rs.map PRow.l⟩
theorem isPosR_eq {cash : List Int} {rs : List PRow} (who bond : Int) : isPosR cash rs who bond = isPos (psOf cash rs) who bond := by
  unfold isPosR isPos psOf at0
  by_cases h : 0 ≤ who
  · rw [if_neg (by omega)]
    simp only [List.getElem?_map]
    rcases rs[who.toNat]? with _ | r <;> simp
  · rw [decide_eq_false h]; simp
theorem cashR_eq {cash : List Int} {rs : List PRow} (who : Int) : cashR cash who = cashOf (psOf cash rs) who := by
  unfold cashR cashOf psOf at0
  dsimp only
  split <;> rfl
theorem headsReads {W : World} {h : List Chunk} {AR : Option Addr} {cR : Nat} {t : TypeId} {rs : List PRow} (hm : Chunk.own AR rs.length cR t 1 (rs.map PRow.hd) ∈ h) : Reads W h AR rs.length 1 (rs.map PRow.hd) := Reads.own hm (by simp) (fun v hv => by
  obtain ⟨y, _, rfl⟩ := List.mem_map.1 hv
  rfl)
theorem head_at {rs : List PRow} {i : Nat} {a : PRow} (h : rs[i]? = some a) : (rs.map PRow.hd)[i * 1]? = some (.slice a.A a.l.length a.c) := by simp [h]; rfl
theorem row_ck {rs : List PRow} {a : PRow} (h : a ∈ rs) {F : List Chunk} : Chunk.own a.A a.l.length a.c 2 1 (a.l.map (Value.int .i64)) ∈ rs.map PRow.ck ++ F := List.mem_append_left _ (List.mem_map.2 ⟨a, h, rfl⟩)
structure RowAt (rs : List PRow) (nb : Nat) (i : Int) (a : PRow) : Prop where
  at_ : rs[i.toNat]? = some a
  len : a.l.length = nb
  wr : ∀ n ∈ a.l, inW n
theorem row_at {np nb : Nat} {cash : List Int} {rs : List PRow} (h : PsOK np nb (psOf cash rs)) {i : Int} (h0 : 0 ≤ i) (h1 : i < np) : ∃ a, RowAt rs nb i a := by
  have hl : rs.length = np := by have := h.np; simpa [psOf] using this
  have ha : rs[i.toNat]? = some (rs[i.toNat]'(by omega)) := List.getElem?_eq_getElem (by omega)
  have hm : (rs[i.toNat]'(by omega)).l ∈ (psOf cash rs).pos := List.mem_map.2 ⟨_, List.getElem_mem (by omega), rfl⟩
  exact ⟨_, ha, h.row _ hm, h.wr _ hm⟩
theorem posOf_at {cash : List Int} {rs : List PRow} {i bond : Int} {a : PRow} (h0 : 0 ≤ i) (ha : rs[i.toNat]? = some a) (hb : 0 ≤ bond) {n : Int} (hn : a.l[bond.toNat]? = some n) : posOf (psOf cash rs) i bond = n := by
  unfold posOf psOf at0
  rw [if_neg (by omega)]
  simp only [List.getElem?_map, ha, Option.map_some, Option.bind_some]
  rw [if_neg (by omega), hn]; rfl
theorem cashOf_at {cash : List Int} {rs : List PRow} {i n : Int} (h0 : 0 ≤ i) (hn : cash[i.toNat]? = some n) : cashOf (psOf cash rs) i = n := by
  unfold cashOf psOf at0
  rw [if_neg (by omega)]
  dsimp only
  rw [hn]; rfl
theorem pos_Bonds (W : World) (p : Nat) (AC : Option Addr) (cC : Nat) (AR : Option Addr) (cR : Nat) (cash : List Int) (rs : List PRow) (np nb : Nat) (hP : PsOK np nb (psOf cash rs)) (who bond : Int) :
    QSpec Tryz.prog W 81 [.pointer (some ⟨p, 0, none⟩), .int .i64 who, .int .i64 bond] (posTab p AC cC AR cR cash rs []) (.int .i64 (posOf (psOf cash rs) who bond)) := by
  refine QSpec.ofD (fun h' hs => ?_)
  have m0 := hs _ mem0
  have m1 := hs _ mem2
  have hck := fun (a : PRow) (ha : a ∈ rs) => hs _ (List.mem_cons_of_mem _ (List.mem_cons_of_mem _ (List.mem_cons_of_mem _ (row_ck ha))))
  have hlc : rs.length = cash.length := by have a1 := hP.nc; have a2 := hP.np; simp [psOf] at a1 a2; omega
  have hI := (pos_is W p AC cC AR cR cash rs hlc who bond).mono (h' := h') (memPairP m0 m1)
  rw [isPosR_eq] at hI
  have hrd := headsReads (W := W) m1
  refine spec_body Tryz.func81 rfl rfl Tryz.results81 Tryz.ntmps81 rfl rfl ?_
  refine aw_reads hrd rfl (fun hA => ?_)
  cases hv : isPos (psOf cash rs) who bond
  · rw [hv] at hI
    have hz : posOf (psOf cash rs) who bond = 0 := by
      unfold posOf
      rcases hx : at0 (psOf cash rs).pos who with _ | r
      · rfl
      · rw [Option.bind_some]
        rcases hy : at0 r bond with _ | n
        · rfl
        · exfalso
          have h1 := at0_le hx
          have h2 := at0_le hy
          have h3 := hP.row _ (at0M hx)
          have h4 := hP.np
          have : isPos (psOf cash rs) who bond = true := (isPos_iff hP).2 ⟨by omega, by omega⟩
          rw [hv] at this; cases this
    rw [hz]
    repeat' (first
      | apply aw_seq | apply aw_region | apply aw_ret | apply aw_skip | apply aw_exit | apply aw_block | apply es_nil
      | (apply es_pure hT; (iterate 4 exact rfl)) | (apply es_skip; (iterate 3 exact rfl)) | (apply es_skip0; (iterate 2 exact rfl))
      | (apply es_i64 hT; (iterate 4 exact rfl); (iterate 2 (first | omega | (dsimp only; omega))))
      | (apply aw_draw [] [] hmix; decide +kernel)
      | (apply es_callQ (hs := (hI.mono (by (intro c hc; (repeat (first | exact hc | apply List.mem_cons_of_mem | apply List.mem_append_right)))))); (iterate 7 exact rfl))
      | (apply es_load; (iterate 5 exact rfl); first | (apply ld_blk hT; exact rfl; exact rfl; (repeat (first | exact List.mem_cons_self | exact m0 | apply List.mem_cons_of_mem | apply List.mem_append_right)); exact rfl; exact rfl) | (apply ld_all hT; exact rfl; exact rfl; (repeat (first | exact List.mem_cons_self | exact m0 | apply List.mem_cons_of_mem | apply List.mem_append_right)); exact rfl))
      | (apply es_box; (iterate 5 exact rfl); intro _) | (apply es_alloc hT; (iterate 5 exact rfl); intro _)
      | (apply aw_condT; (iterate 2 exact rfl)) | (apply aw_condF; (iterate 2 exact rfl))
      | (apply es_case; exact rfl; all_goals intro hb; all_goals (fail_if_success (change true = true at hb)); all_goals (fail_if_success (change false = false at hb)); all_goals (try dsimp only at hb); all_goals (try simp only [hb]); all_goals (first | replace hb := of_decide_eq_true hb | replace hb := of_decide_eq_false hb | replace hb := bne_t hb | replace hb := bne_f hb | replace hb := eq_of_beq hb | replace hb := ne_of_beq_false hb | skip); all_goals (try (exfalso; omega)))
      | (apply aw_cond; exact rfl; all_goals intro hb; all_goals (try dsimp only at hb); all_goals (try simp only [hb]); all_goals (first | replace hb := of_decide_eq_true hb | replace hb := of_decide_eq_false hb | replace hb := bne_t hb | replace hb := bne_f hb | replace hb := eq_of_beq hb | replace hb := ne_of_beq_false hb | skip); all_goals (try (exfalso; omega))))
    all_goals first
      | (exfalso; omega)
      | (apply ret1; exact rfl; exact ⟨rfl, by (repeat (first | exact dt_end | (apply dt_cons; · (repeat (first | exact sel0 | apply selS | apply selApp))) | apply dt_skip | apply dt_both))⟩)
      | skip
  · obtain ⟨⟨w1, w2⟩, b1, b2⟩ := (isPos_iff hP).1 hv
    rw [hv] at hI
    obtain ⟨a, ha⟩ := row_at hP w1 w2
    have hal := ha.len
    obtain ⟨n, hn⟩ : ∃ n, a.l[bond.toNat]? = some n := ⟨a.l[bond.toNat]'(by omega), List.getElem?_eq_getElem (by omega)⟩
    rw [posOf_at w1 ha.at_ b1 hn]
    have hnp := hP.np
    simp only [psOf, List.length_map] at hnp
    have hA' := hA (by omega)
    have hrda : Reads W h' a.A a.l.length 1 (a.l.map (Value.int .i64)) := Reads.ints (hck a (List.mem_of_getElem? ha.at_)) rfl
    refine aw_reads hrda rfl (fun hB => ?_)
    have hB' := hB (by omega)
    have hix := head_at ha.at_
    have hiy := intAt (kd := .i64) hn
    repeat' (first
      | apply aw_seq | apply aw_region | apply aw_ret | apply aw_skip | apply aw_exit | apply aw_block | apply es_nil
      | (apply es_pure hT; (iterate 4 exact rfl)) | (apply es_skip; (iterate 3 exact rfl)) | (apply es_skip0; (iterate 2 exact rfl))
      | (apply es_i64 hT; (iterate 4 exact rfl); (iterate 2 (first | omega | (dsimp only; omega))))
      | (apply aw_draw [] [] hmix; decide +kernel)
      | (apply es_callQ (hs := (hI.mono (by (intro c hc; (repeat (first | exact hc | apply List.mem_cons_of_mem | apply List.mem_append_right)))))); (iterate 7 exact rfl))
      | (apply es_idx hT; (iterate 8 exact rfl); (iterate 2 omega); first | exact hA' | exact hB')
      | (apply es_load; (iterate 5 exact rfl); first | exact ld_row hT rfl rfl hrd rfl hix | exact ld_row hT rfl rfl hrda rfl hiy)
      | (apply es_load; (iterate 5 exact rfl); first | (apply ld_blk hT; exact rfl; exact rfl; (repeat (first | exact List.mem_cons_self | exact m0 | apply List.mem_cons_of_mem | apply List.mem_append_right)); exact rfl; exact rfl) | (apply ld_all hT; exact rfl; exact rfl; (repeat (first | exact List.mem_cons_self | exact m0 | apply List.mem_cons_of_mem | apply List.mem_append_right)); exact rfl))
      | (apply es_box; (iterate 5 exact rfl); intro _) | (apply es_alloc hT; (iterate 5 exact rfl); intro _)
      | (apply aw_condT; (iterate 2 exact rfl)) | (apply aw_condF; (iterate 2 exact rfl))
      | (apply es_case; exact rfl; all_goals intro hb; all_goals (fail_if_success (change true = true at hb)); all_goals (fail_if_success (change false = false at hb)); all_goals (try dsimp only at hb); all_goals (try simp only [hb]); all_goals (first | replace hb := of_decide_eq_true hb | replace hb := of_decide_eq_false hb | replace hb := bne_t hb | replace hb := bne_f hb | replace hb := eq_of_beq hb | replace hb := ne_of_beq_false hb | skip); all_goals (try (exfalso; omega)))
      | (apply aw_cond; exact rfl; all_goals intro hb; all_goals (try dsimp only at hb); all_goals (try simp only [hb]); all_goals (first | replace hb := of_decide_eq_true hb | replace hb := of_decide_eq_false hb | replace hb := bne_t hb | replace hb := bne_f hb | replace hb := eq_of_beq hb | replace hb := ne_of_beq_false hb | skip); all_goals (try (exfalso; omega))))
    all_goals first
      | (exfalso; omega)
      | (apply ret1; exact rfl; exact ⟨rfl, by (repeat (first | exact dt_end | (apply dt_cons; · (repeat (first | exact sel0 | apply selS | apply selApp))) | apply dt_skip | apply dt_both))⟩)
      | skip
theorem pos_PutBad (W : World) (F : List Chunk) (p : Nat) (AC : Option Addr) (cC : Nat) (AR : Option Addr) (cR : Nat) (cash : List Int) (rs : List PRow) (np nb : Nat) (hP : PsOK np nb (psOf cash rs)) (t : TradeR)
    (hbad : isPos (psOf cash rs) t.buyer t.bond = false ∨ isPos (psOf cash rs) t.seller t.bond = false ∨ t.buyer = t.seller ∨ t.price < 1 ∨ t.qty < 1) :
    FSpec Tryz.prog W 21 [.pointer (some ⟨p, 0, none⟩), .agg t.enc.toArray] (posTab p AC cC AR cR cash rs F) (fun v h' => v = .int .i64 1 ∧ h' = posTab p AC cC AR cR cash rs F) := by
  refine FSpec.dropTo ?_
  have hnc := hP.nc
  have hnp := hP.np
  simp only [psOf, List.length_map] at hnc hnp
  have hlc : rs.length = cash.length := by omega
  have hI := fun who bond h' m0 m1 => (pos_is W p AC cC AR cR cash rs hlc who bond).mono (h' := h') (memPairP m0 m1)
  simp only [isPosR_eq] at hI
  unfold posTab
  have h1 := hI t.buyer t.bond
  have h2 := hI t.seller t.bond
  generalize isPos (psOf cash rs) t.buyer t.bond = b1 at *
  generalize isPos (psOf cash rs) t.seller t.bond = b2 at *
  generalize rs.map PRow.ck ++ F = G
  refine spec_body Tryz.func21 rfl rfl Tryz.results21 Tryz.ntmps21 rfl rfl ?_
  repeat' (first
    | apply aw_seq | apply aw_region | apply aw_ret | apply aw_skip | apply aw_exit | apply aw_block | apply es_nil
    | (apply es_pure hT; (iterate 4 exact rfl)) | (apply es_skip; (iterate 3 exact rfl)) | (apply es_skip0; (iterate 2 exact rfl))
    | (apply es_i64 hT; (iterate 4 exact rfl); (iterate 2 (first | omega | (dsimp only; omega))))
    | (apply aw_draw [] [] hmix; decide +kernel)
    | (apply es_box; (iterate 5 exact rfl); intro g3)
    | (apply es_callQ (hs := (h1 _ (by (repeat (first | exact List.mem_cons_self | apply List.mem_cons_of_mem | apply List.mem_append_right))) (by (repeat (first | exact List.mem_cons_self | apply List.mem_cons_of_mem | apply List.mem_append_right))))); (iterate 7 exact rfl))
    | (apply es_callQ (hs := (h2 _ (by (repeat (first | exact List.mem_cons_self | apply List.mem_cons_of_mem | apply List.mem_append_right))) (by (repeat (first | exact List.mem_cons_self | apply List.mem_cons_of_mem | apply List.mem_append_right))))); (iterate 7 exact rfl))
    | (apply es_load; (iterate 5 exact rfl); first | (apply ld_blk hT; exact rfl; exact rfl; (repeat (first | exact List.mem_cons_self | apply List.mem_cons_of_mem | apply List.mem_append_right)); exact rfl; exact rfl) | (apply ld_all hT; exact rfl; exact rfl; (repeat (first | exact List.mem_cons_self | apply List.mem_cons_of_mem | apply List.mem_append_right)); exact rfl))
    | (apply es_box; (iterate 5 exact rfl); intro _) | (apply es_alloc hT; (iterate 5 exact rfl); intro _)
    | (apply aw_condT; (iterate 2 exact rfl)) | (apply aw_condF; (iterate 2 exact rfl))
    | (apply es_case; exact rfl; all_goals intro hb; all_goals (fail_if_success (change true = true at hb)); all_goals (fail_if_success (change false = false at hb)); all_goals (try dsimp only at hb); all_goals (try simp only [hb]); all_goals (first | replace hb := of_decide_eq_true hb | replace hb := of_decide_eq_false hb | replace hb := bne_t hb | replace hb := bne_f hb | replace hb := eq_of_beq hb | replace hb := ne_of_beq_false hb | skip); all_goals (try (exfalso; omega)))
    | (apply aw_cond; exact rfl; all_goals intro hb; all_goals (try dsimp only at hb); all_goals (try simp only [hb]); all_goals (first | replace hb := of_decide_eq_true hb | replace hb := of_decide_eq_false hb | replace hb := bne_t hb | replace hb := bne_f hb | replace hb := eq_of_beq hb | replace hb := ne_of_beq_false hb | skip); all_goals (try (exfalso; omega))))
  all_goals first
    | (exfalso; omega)
    | (exfalso; simp_all; done)
    | (apply ret1; exact rfl; exact ⟨_, by (show DropTo _ (_ :: _ :: _ :: G)); (repeat (first | exact dt_end | (apply dt_cons; · (repeat (first | exact sel0 | apply selS | apply selApp))) | apply dt_skip | apply dt_both)), rfl, rfl⟩)
    | skip
theorem okI_is (x : Int) : ∃ y f, okI x = .tuple #[.int .i64 y, .bool f] ∧ inW y ∧ inI x = f ∧ (f = true → y = x) := by
  refine ⟨if inI x then x else 0, inI x, rfl, ?_, rfl, fun h => by rw [if_pos h]⟩
  split
  · rename_i h; exact inI_t h
  · unfold inW; omega
theorem lay_int {l : List Int} {i : Nat} {n : Int} {k : IntKind} (h : i < l.length) : lay (l.map (Value.int k)) (i * 1) (Value.cells (.int k n)).toList = (l.set i n).map (Value.int k) := by
  show lay _ _ [.int k n] = _
  rw [lay_set1 (by simpa using h), List.map_set]
theorem setRow_at {l : List (List Int)} {who bond n : Int} {r : List Int} (h : at0 l who = some r) : setRow l who bond n = l.set who.toNat (r.set bond.toNat n) := by
  unfold setRow
  rw [h]; rfl
set_option maxHeartbeats 4000000 in
theorem pos_PutOk (W : World) (F : List Chunk) (p : Nat) (AC : Option Addr) (cC : Nat) (AR : Option Addr) (cR : Nat) (cash : List Int) (rs : List PRow) (np nb : Nat) (hP : PsOK np nb (psOf cash rs)) (t : TradeR) (hpr : inW t.price) (hqt : inW t.qty)
    (hbad : ¬ (isPos (psOf cash rs) t.buyer t.bond = false ∨ isPos (psOf cash rs) t.seller t.bond = false ∨ t.buyer = t.seller ∨ t.price < 1 ∨ t.qty < 1)) :
    FSpec Tryz.prog W 21 [.pointer (some ⟨p, 0, none⟩), .agg t.enc.toArray] (posTab p AC cC AR cR cash rs F) (fun v h' => v = .int .i64 (putE (psOf cash rs) t) ∧ ∃ cash' rs', psOf cash' rs' = putP (psOf cash rs) t ∧ h' = posTab p AC cC AR cR cash' rs' F) := by
  refine FSpec.dropTo ?_
  have hnc := hP.nc
  have hnp := hP.np
  simp only [psOf, List.length_map] at hnc hnp
  have hlc : rs.length = cash.length := by omega
  have hI := fun who bond h' m0 m1 => (pos_is W p AC cC AR cR cash rs hlc who bond).mono (h' := h') (memPairP m0 m1)
  simp only [isPosR_eq] at hI
  have h1 := hI t.buyer t.bond
  have h2 := hI t.seller t.bond
  have hbad' := hbad
  simp only [not_or, Bool.not_eq_false] at hbad'
  obtain ⟨hb1, hb2, hne, hp1, hq1⟩ := hbad'
  rw [hb1] at h1
  rw [hb2] at h2
  obtain ⟨⟨x1, x2⟩, x3, x4⟩ := (isPos_iff hP).1 hb1
  obtain ⟨⟨y1, y2⟩, _, _⟩ := (isPos_iff hP).1 hb2
  obtain ⟨a, ha⟩ := row_at hP x1 x2
  obtain ⟨b, hb⟩ := row_at hP y1 y2
  have hal := ha.len
  have hbl := hb.len
  obtain ⟨nB, hnB⟩ : ∃ n, a.l[t.bond.toNat]? = some n := ⟨a.l[t.bond.toNat]'(by omega), List.getElem?_eq_getElem (by omega)⟩
  obtain ⟨nS, hnS⟩ : ∃ n, b.l[t.bond.toNat]? = some n := ⟨b.l[t.bond.toNat]'(by omega), List.getElem?_eq_getElem (by omega)⟩
  obtain ⟨cB, hcB⟩ : ∃ n, cash[t.buyer.toNat]? = some n := ⟨cash[t.buyer.toNat]'(by omega), List.getElem?_eq_getElem (by omega)⟩
  obtain ⟨cS, hcS⟩ : ∃ n, cash[t.seller.toNat]? = some n := ⟨cash[t.seller.toNat]'(by omega), List.getElem?_eq_getElem (by omega)⟩
  have wnB := ha.wr _ (List.mem_of_getElem? hnB)
  have wnS := hb.wr _ (List.mem_of_getElem? hnS)
  have wcB := hP.wc _ (List.mem_of_getElem? hcB)
  have wcS := hP.wc _ (List.mem_of_getElem? hcS)
  obtain ⟨X, hX⟩ := Int.eq_ofNat_of_zero_le (show 0 ≤ t.price by omega)
  obtain ⟨Q, hQ⟩ := Int.eq_ofNat_of_zero_le (show 0 ≤ t.qty by omega)
  unfold inW at hpr hqt
  have hTm := fix_Times W X Q (by omega) (by omega)
  rw [← hX, ← hQ] at hTm
  have hXQ : X * Q < 340282366920938463463374607431768211456 := by
    have : X * Q ≤ 9223372036854775807 * 9223372036854775807 := Nat.mul_le_mul (by omega) (by omega)
    omega
  have hNr := fix_Narrow W (X * Q) hXQ
  have hcost : t.price * t.qty = ((X * Q : Nat) : Int) := by rw [hX, hQ]; simp
  obtain ⟨v1, f1, e1, w1, g1, k1⟩ := okI_is ((X * Q : Nat) : Int)
  rw [e1] at hNr
  have hA2 := fix_AddG W nB t.qty wnB (by unfold inW; omega)
  obtain ⟨v2, f2, e2, w2, g2, k2⟩ := okI_is (nB + t.qty)
  rw [e2] at hA2
  have hA3 := fix_SubG W nS t.qty wnS (by unfold inW; omega)
  obtain ⟨v3, f3, e3, w3, g3', k3⟩ := okI_is (nS - t.qty)
  rw [e3] at hA3
  have hA4 := fix_SubG W cB v1 wcB w1
  obtain ⟨v4, f4, e4, w4, g4', k4⟩ := okI_is (cB - v1)
  rw [e4] at hA4
  have hA5 := fix_AddG W cS v1 wcS w1
  obtain ⟨v5, f5, e5, w5, g5', k5⟩ := okI_is (cS + v1)
  rw [e5] at hA5
  have hE : putE (psOf cash rs) t = if f1 && f2 && f3 && f4 && f5 then 0 else 15 := by
    unfold putE
    rw [if_neg hbad, posOf_at x1 ha.at_ x3 hnB, posOf_at y1 hb.at_ x3 hnS, cashOf_at x1 hcB, cashOf_at y1 hcS, hcost, g1, g2, g3']
    cases f1
    · simp
    · rw [← k1 rfl, g4', g5']
  have hEok : (f1 && f2 && f3 && f4 && f5) = true → (putP (psOf cash rs) t) = ⟨(cash.set t.buyer.toNat v4).set t.seller.toNat v5, setRow (setRow (rs.map PRow.l) t.buyer t.bond v2) t.seller t.bond v3⟩ := fun hf => by
    rw [hf, if_pos rfl] at hE
    simp only [Bool.and_eq_true] at hf
    obtain ⟨⟨⟨⟨z1, z2⟩, z3⟩, z4⟩, z5⟩ := hf
    unfold putP
    rw [if_pos hE, posOf_at x1 ha.at_ x3 hnB, posOf_at y1 hb.at_ x3 hnS, cashOf_at x1 hcB, cashOf_at y1 hcS, hcost, k2 z2, k3 z3, k4 z4, k5 z5, k1 z1]
    rfl
  rw [hE]
  obtain ⟨R, hR⟩ := set2_perm (l := rs) (i := t.buyer.toNat) (j := t.seller.toNat) (by omega) (by omega) (by omega)
  have hR0 := hR a b
  rw [set_self ha.at_, set_self hb.at_] at hR0
  have hpull : (posTab p AC cC AR cR cash rs F).Perm (.blk p 132 [.slice AR rs.length cR, .slice AC cash.length cC] :: .own AC cash.length cC 2 1 (cash.map (Value.int .i64)) :: .own AR rs.length cR 129 1 (rs.map PRow.hd)
      :: .own a.A a.l.length a.c 2 1 (a.l.map (Value.int .i64)) :: .own b.A b.l.length b.c 2 1 (b.l.map (Value.int .i64)) :: (R.map PRow.ck ++ F)) := by
    unfold posTab
    refine ((List.Perm.append_right F (hR0.map PRow.ck)).cons _ |>.cons _ |>.cons _)
  have hixa := head_at ha.at_
  have hixb := head_at hb.at_
  have hiB := intAt (kd := .i64) hnB
  have hiS := intAt (kd := .i64) hnS
  have hjB := intAt (kd := .i64) hcB
  have hjS := intAt (kd := .i64) hcS
  generalize hG : R.map PRow.ck ++ F = G at hpull
  have hEno : (f1 && f2 && f3 && f4 && f5) = false → putP (psOf cash rs) t = psOf cash rs := fun hf => by
    rw [hf] at hE
    unfold putP
    rw [if_neg (by rw [hE]; decide)]
  have hdrop : ∀ k, DropTo k (.blk p 132 [.slice AR rs.length cR, .slice AC cash.length cC] :: .own AC cash.length cC 2 1 (cash.map (Value.int .i64)) :: .own AR rs.length cR 129 1 (rs.map PRow.hd)
      :: .own a.A a.l.length a.c 2 1 (a.l.map (Value.int .i64)) :: .own b.A b.l.length b.c 2 1 (b.l.map (Value.int .i64)) :: G) → DropTo k (posTab p AC cC AR cR cash rs F) := fun k hk => dt_trans hk (dt_perm hpull.symm)
  have hfin : ∀ k, DropTo k (.blk p 132 [.slice AR rs.length cR, .slice AC cash.length cC] :: .own AC cash.length cC 2 1 (lay (lay (cash.map (Value.int .i64)) (t.buyer.toNat * 1) (Value.cells (.int .i64 v4)).toList) (t.seller.toNat * 1) (Value.cells (.int .i64 v5)).toList) :: .own AR rs.length cR 129 1 (rs.map PRow.hd)
      :: .own a.A a.l.length a.c 2 1 (lay (a.l.map (Value.int .i64)) (t.bond.toNat * 1) (Value.cells (.int .i64 v2)).toList) :: .own b.A b.l.length b.c 2 1 (lay (b.l.map (Value.int .i64)) (t.bond.toNat * 1) (Value.cells (.int .i64 v3)).toList) :: G)
      → DropTo k (posTab p AC cC AR cR ((cash.set t.buyer.toNat v4).set t.seller.toNat v5) ((rs.set t.buyer.toNat ⟨a.A, a.c, a.l.set t.bond.toNat v2⟩).set t.seller.toNat ⟨b.A, b.c, b.l.set t.bond.toNat v3⟩) F) := fun k hk => by
    refine dt_trans hk (dt_perm ?_)
    rw [lay_int (by omega), lay_int (by simp only [List.length_set]; omega), lay_int (by omega), lay_int (by omega)]
    unfold posTab
    have e4 : ((rs.set t.buyer.toNat ⟨a.A, a.c, a.l.set t.bond.toNat v2⟩).set t.seller.toNat ⟨b.A, b.c, b.l.set t.bond.toNat v3⟩).map PRow.hd = rs.map PRow.hd := by
      rw [List.map_set, List.map_set]
      have f1 : PRow.hd ⟨a.A, a.c, a.l.set t.bond.toNat v2⟩ = PRow.hd a := by unfold PRow.hd; simp only [List.length_set]
      have f2 : PRow.hd ⟨b.A, b.c, b.l.set t.bond.toNat v3⟩ = PRow.hd b := by unfold PRow.hd; simp only [List.length_set]
      rw [f1, f2, set_self (l := rs.map PRow.hd) (i := t.buyer.toNat) (a := PRow.hd a) (by rw [List.getElem?_map, ha.at_]; rfl), set_self (l := rs.map PRow.hd) (i := t.seller.toNat) (a := PRow.hd b) (by rw [List.getElem?_map, hb.at_]; rfl)]
    rw [e4]
    simp only [List.length_set]
    refine List.Perm.cons _ (List.Perm.cons _ (List.Perm.cons _ ?_))
    have e5 := ((hR ⟨a.A, a.c, a.l.set t.bond.toNat v2⟩ ⟨b.A, b.c, b.l.set t.bond.toNat v3⟩).map PRow.ck).append_right F
    have f3 : PRow.ck ⟨a.A, a.c, a.l.set t.bond.toNat v2⟩ = .own a.A a.l.length a.c 2 1 ((a.l.set t.bond.toNat v2).map (Value.int .i64)) := by unfold PRow.ck; simp only [List.length_set]
    have f4 : PRow.ck ⟨b.A, b.c, b.l.set t.bond.toNat v3⟩ = .own b.A b.l.length b.c 2 1 ((b.l.set t.bond.toNat v3).map (Value.int .i64)) := by unfold PRow.ck; simp only [List.length_set]
    rw [List.map_cons, List.map_cons, f3, f4] at e5
    rw [← hG]
    exact e5.symm
  have hpsok : (f1 && f2 && f3 && f4 && f5) = true → psOf ((cash.set t.buyer.toNat v4).set t.seller.toNat v5) ((rs.set t.buyer.toNat ⟨a.A, a.c, a.l.set t.bond.toNat v2⟩).set t.seller.toNat ⟨b.A, b.c, b.l.set t.bond.toNat v3⟩) = putP (psOf cash rs) t := fun hf => by
    rw [hEok hf]
    unfold psOf
    congr 1
    rw [List.map_set, List.map_set]
    have q1 : at0 (rs.map PRow.l) t.buyer = some a.l := by unfold at0; rw [if_neg (by omega), List.getElem?_map, ha.at_]; rfl
    rw [setRow_at q1]
    have q2 : at0 ((rs.map PRow.l).set t.buyer.toNat (a.l.set t.bond.toNat v2)) t.seller = some b.l := by
      unfold at0
      rw [if_neg (by omega), List.getElem?_set_ne (by omega), List.getElem?_map, hb.at_]; rfl
    rw [setRow_at q2]
  generalize putP (psOf cash rs) t = PP at *
  refine spec_body Tryz.func21 rfl rfl Tryz.results21 Tryz.ntmps21 rfl rfl ?_
  refine aw_perm hpull ?_
  refine aw_reads (headsReads (W := W) mem2) rfl (fun hAR => ?_)
  have hAR' := hAR (by omega)
  refine aw_reads (Reads.ints (W := W) mem1 rfl) rfl (fun hAC => ?_)
  have hAC' := hAC (by omega)
  refine aw_reads (Reads.ints (W := W) mem3 rfl) rfl (fun hAa => ?_)
  have hAa' := hAa (by omega)
  refine aw_reads (Reads.ints (W := W) mem4 rfl) rfl (fun hAb => ?_)
  have hAb' := hAb (by omega)
  repeat' (first
    | apply aw_seq | apply aw_region | apply aw_ret | apply aw_skip | apply aw_exit | apply aw_block | apply es_nil
    | (apply es_pure hT; (iterate 4 exact rfl)) | (apply es_skip; (iterate 3 exact rfl)) | (apply es_skip0; (iterate 2 exact rfl))
    | (apply es_i64 hT; (iterate 4 exact rfl); (iterate 2 (first | omega | (dsimp only; omega))))
    | (apply aw_draw [74, 75] [] hmix; decide +kernel)
    | (apply aw_treeD [] [] (.step 0 <| .step 1 <| .step 2 <| .step 3 <| .step 4 <| .step 5 <| .step 6 <| .step 7 <| .step 8 <| .step 9 <| .step 10 <| .step 11 <| .step 12 <| .step 13 <| .step 14 <| .step 15 <| .step 16 <| .step 17 <| .step 18 <| .step 20 <| .step 21 <| .step 22 <| .alt (.step 19 <| .step 23 <| .step 24 <| .step 25 <| .nil) ((.step 23 <| .step 19 <| .step 24 <| .step 25 <| .nil))) hmix; decide +kernel) | apply ep_nil | apply ep_alt | (apply ep_step; exact rfl)
    | (apply aw_treeD [] [] (.step 0 <| .step 1 <| .step 2 <| .step 3 <| .step 4 <| .step 5 <| .step 6 <| .step 7 <| .step 8 <| .step 9 <| .step 10 <| .step 12 <| .step 13 <| .step 14 <| .alt (.step 11 <| .step 15 <| .step 16 <| .step 17 <| .nil) ((.step 15 <| .step 11 <| .step 16 <| .step 17 <| .nil))) hmix; decide +kernel) | apply ep_nil | apply ep_alt | (apply ep_step; exact rfl)
    | (apply es_box; (iterate 5 exact rfl); intro g3)
    | (apply es_callQ (hs := (h1 _ (by (repeat (first | exact List.mem_cons_self | apply List.mem_cons_of_mem | apply List.mem_append_right))) (by (repeat (first | exact List.mem_cons_self | apply List.mem_cons_of_mem | apply List.mem_append_right))))); (iterate 7 exact rfl))
    | (apply es_callQ (hs := (h2 _ (by (repeat (first | exact List.mem_cons_self | apply List.mem_cons_of_mem | apply List.mem_append_right))) (by (repeat (first | exact List.mem_cons_self | apply List.mem_cons_of_mem | apply List.mem_append_right))))); (iterate 7 exact rfl))
    | (apply es_callQ (hs := (hTm.mono (by simp))); (iterate 7 exact rfl))
    | (apply es_callQ (hs := (hNr.mono (by simp))); (iterate 7 exact rfl))
    | (apply es_callQ (hs := (hA2.mono (by simp))); (iterate 7 exact rfl))
    | (apply es_callQ (hs := (hA3.mono (by simp))); (iterate 7 exact rfl))
    | (apply es_callQ (hs := (hA4.mono (by simp))); (iterate 7 exact rfl))
    | (apply es_callQ (hs := (hA5.mono (by simp))); (iterate 7 exact rfl))
    | (apply es_store hT; (iterate 6 exact rfl); (repeat (first | exact sel0 | apply selS | apply selApp)); (iterate 3 exact rfl); exact Nat.le_of_ble_eq_true rfl)
    | (apply es_idx hT; (iterate 8 exact rfl); (iterate 2 omega); first | exact hAR' | exact hAC' | exact hAa' | exact hAb')
    | (apply es_load; (iterate 5 exact rfl); first | exact ld_row hT rfl rfl (headsReads (by (repeat (first | exact List.mem_cons_self | apply List.mem_cons_of_mem | apply List.mem_append_right)))) rfl hixa | exact ld_row hT rfl rfl (headsReads (by (repeat (first | exact List.mem_cons_self | apply List.mem_cons_of_mem | apply List.mem_append_right)))) rfl hixb | exact ld_row hT rfl rfl (Reads.ints (by (repeat (first | exact List.mem_cons_self | apply List.mem_cons_of_mem | apply List.mem_append_right))) rfl) rfl hiB | exact ld_row hT rfl rfl (Reads.ints (by (repeat (first | exact List.mem_cons_self | apply List.mem_cons_of_mem | apply List.mem_append_right))) rfl) rfl hiS | exact ld_row hT rfl rfl (Reads.ints (by (repeat (first | exact List.mem_cons_self | apply List.mem_cons_of_mem | apply List.mem_append_right))) rfl) rfl hjB | exact ld_row hT rfl rfl (Reads.ints (by (repeat (first | exact List.mem_cons_self | apply List.mem_cons_of_mem | apply List.mem_append_right))) rfl) rfl hjS)
    | (apply es_storeRow (A := a.A) hT; (iterate 6 exact rfl); (repeat (first | exact sel0 | apply selS | apply selApp)); exact rfl; exact rfl; exact rfl; (show t.bond.toNat * 1 + 1 ≤ a.l.length * 1; omega); omega)
    | (apply es_storeRow (A := b.A) hT; (iterate 6 exact rfl); (repeat (first | exact sel0 | apply selS | apply selApp)); exact rfl; exact rfl; exact rfl; (show t.bond.toNat * 1 + 1 ≤ b.l.length * 1; omega); omega)
    | (apply es_storeRow (A := AC) hT; (iterate 6 exact rfl); (repeat (first | exact sel0 | apply selS | apply selApp)); exact rfl; exact rfl; exact rfl; (show t.buyer.toNat * 1 + 1 ≤ cash.length * 1; omega); omega)
    | (apply es_storeRow (A := AC) hT; (iterate 6 exact rfl); (repeat (first | exact sel0 | apply selS | apply selApp)); exact rfl; exact rfl; exact rfl; (show t.seller.toNat * 1 + 1 ≤ cash.length * 1; omega); omega)
    | (apply es_load; (iterate 5 exact rfl); first | (apply ld_blk hT; exact rfl; exact rfl; (repeat (first | exact List.mem_cons_self | apply List.mem_cons_of_mem | apply List.mem_append_right)); exact rfl; exact rfl) | (apply ld_all hT; exact rfl; exact rfl; (repeat (first | exact List.mem_cons_self | apply List.mem_cons_of_mem | apply List.mem_append_right)); exact rfl))
    | (apply es_box; (iterate 5 exact rfl); intro _) | (apply es_alloc hT; (iterate 5 exact rfl); intro _)
    | (apply aw_condT; (iterate 2 exact rfl)) | (apply aw_condF; (iterate 2 exact rfl))
    | (apply es_case; exact rfl; all_goals intro hb; all_goals (fail_if_success (change true = true at hb)); all_goals (fail_if_success (change false = false at hb)); all_goals (try dsimp only at hb); all_goals (try simp only [hb]); all_goals (first | replace hb := of_decide_eq_true hb | replace hb := of_decide_eq_false hb | replace hb := bne_t hb | replace hb := bne_f hb | replace hb := eq_of_beq hb | replace hb := ne_of_beq_false hb | skip); all_goals (try (exfalso; omega)))
    | (apply aw_cond; exact rfl; all_goals intro hb; all_goals (try dsimp only at hb); all_goals (try simp only [hb]); all_goals (first | replace hb := of_decide_eq_true hb | replace hb := of_decide_eq_false hb | replace hb := bne_t hb | replace hb := bne_f hb | replace hb := eq_of_beq hb | replace hb := ne_of_beq_false hb | skip); all_goals (try (exfalso; omega))))
  all_goals first
    | (exfalso; omega)
    | ((have flag0 : (f1 && f2 && f3 && f4 && f5) = false := by (clear hdrop hfin hpsok hEok hEno hE hI h1 h2 hpull; simp only [Bool.not_eq_true', Bool.not_eq_false'] at *; simp [*])); apply ret1; exact rfl; exact ⟨_, hdrop _ (by (repeat (first | exact dt_end | (apply dt_cons; · (repeat (first | exact sel0 | apply selS | apply selApp))) | apply dt_skip | apply dt_both))), by rw [flag0]; rfl, cash, rs, (hEno flag0).symm, rfl⟩)
    | ((have flag1 : (f1 && f2 && f3 && f4 && f5) = true := by (clear hdrop hfin hpsok hEok hEno hE hI h1 h2 hpull; simp only [Bool.not_eq_true', Bool.not_eq_false'] at *; simp [*])); apply ret1; exact rfl; exact ⟨_, hfin _ (by (repeat (first | exact dt_end | (apply dt_cons; · (repeat (first | exact sel0 | apply selS | apply selApp))) | apply dt_skip | apply dt_both))), by rw [flag1]; rfl, _, _, hpsok flag1, rfl⟩)
    | skip
end Go.Proofs.YtjcnaeengplcbaaGreat

set_option linter.unusedSimpArgs false
set_option linter.unusedVariables false
namespace Go.Sl
open Go Go.RowKit
variable {P : Program} {W : World} {T : Tab} {N : Nat} {env : Env} {h h' : List Chunk} {kf : KF} {ops : Array Oper} {K : Env → List Chunk → Prop} {o : Oper} {rest : List Oper}

theorem pullA0 {L R : List Chunk} : (L ++ R).Perm (L ++ R) := List.Perm.refl _
theorem pullAS {x : Chunk} {F L G : List Chunk} (hp : F.Perm (L ++ G)) : (x :: F).Perm (L ++ x :: G) := (hp.cons x).trans List.perm_middle.symm
theorem pullAA {X F L G : List Chunk} (hp : F.Perm (L ++ G)) : (X ++ F).Perm (L ++ (X ++ G)) := (hp.append_left X).trans (by
  rw [← List.append_assoc, ← List.append_assoc]
  exact (List.perm_append_comm).append_right G)
theorem permCA {h L G F : List Chunk} (h1 : h.Perm (L ++ G)) (h2 : G.Perm F) : h.Perm (L ++ F) := h1.trans (h2.append_left L)
end Go.Sl

