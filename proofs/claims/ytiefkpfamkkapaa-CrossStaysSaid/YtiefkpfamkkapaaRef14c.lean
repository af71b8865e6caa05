/- The document's answer on books, more: Side, Levels, Shows. Conditions stand in each statement. -/
import Derived.Test.YtiefkpfamkkapaaRef14b
set_option linter.unusedSimpArgs false
set_option linter.unusedVariables false
namespace Go.Proofs.Ytiefkpfamkkapaa
open Go Go.Sl
attribute [local irreducible] AW ES EP Ld RetQ
set_option maxRecDepth 100000

theorem blockq_n {id : Nat} {Q : Exit → Env → List Chunk → Prop} {env : Env} {h : List Chunk} (hq : Q .normal env h) : BlockQ id Q .normal env h := hq
theorem tw_eq {α : Type} {p : α → Bool} : ∀ {l : List α} {i : Nat}, i ≤ l.length → (∀ (k : Nat) y, k < i → l[k]? = some y → p y = true) → (∀ y, l[i]? = some y → p y = false) → (l.takeWhile p).length = i
  | [], i, h, _, _ => by simp at h; subst h; rfl
  | x :: l, 0, _, _, h2 => by simp [List.takeWhile_cons, h2 x rfl]
  | x :: l, i + 1, h, h1, h2 => by
    have ih := tw_eq (p := p) (l := l) (i := i) (by simpa using h) (fun k y hk hy => h1 (k + 1) y (by omega) (by simpa using hy)) (fun y hy => h2 y (by simpa using hy))
    simp [List.takeWhile_cons, h1 0 x (by omega) rfl, ih]
theorem sideO_step {s : Int} {l : List Order} {k : Nat} {x : Order} (hx : l[k]? = some x) : sideO s (l.take (k + 1)) = if isSide s x then insO s (sideO s (l.take k)) x else sideO s (l.take k) := by
  unfold sideO
  rw [List.take_add_one, hx, List.filter_append]
  cases h : isSide s x <;> simp [h, List.foldl_append]

set_option maxHeartbeats 4000000 in
theorem ref14_Side (W : World) (h : List Chunk) (p : Nat) (A : Option Addr) (c : Nat) (l : List Order) (s : Int) (m1 : Chunk.blk p 47 [.slice A l.length c] ∈ h) (m2 : Chunk.own A l.length c 29 6 (l.flatMap Order.enc) ∈ h) (hb : l.length ≤ 1000000) :
    FSpec Try.prog W 41 [.pointer (some ⟨p, 0, none⟩), .int .i64 s] h
      (fun v h' => ∃ A' c', v = .slice A' (sideO s l).length c' ∧ h' = .own A' (sideO s l).length c' 29 6 ((sideO s l).flatMap Order.enc) :: h ∧ OwnF A' (sideO s l).length c' 6 ((sideO s l).flatMap Order.enc)) := by
  refine FSpec.dropF ?_
  refine spec_body Try.func41 rfl rfl Try.results41 Try.ntmps41 rfl rfl ?_
  refine aw_fact m2 (fun hl hnc hcc hsome hnone hone => ?_)
  have hr : Reads W h A l.length 6 (l.flatMap Order.enc) := Reads.own m2 hl hone
  repeat' (first
    | apply aw_seq | apply aw_region | apply aw_ret | apply aw_skip | apply aw_exit | apply aw_block | apply es_nil
    | (apply es_pure hT; (iterate 4 exact rfl)) | (apply es_skip; (iterate 3 exact rfl)) | (apply es_skip0; (iterate 2 exact rfl))
    | (apply es_i64 hT; (iterate 4 exact rfl); (iterate 2 omega))
    | (apply aw_draw [] [] hmix; decide +kernel)
    | (apply es_load; (iterate 5 exact rfl); first | exact ld_blk hT rfl rfl mem0 rfl rfl | exact ld_all hT rfl rfl mem0 rfl)
    | (apply es_load; (iterate 5 exact rfl); first | exact ld_blk hT rfl rfl mem1 rfl rfl | exact ld_all hT rfl rfl mem1 rfl)
    | (apply es_load; (iterate 5 exact rfl); first | exact ld_blk hT rfl rfl mem2 rfl rfl | exact ld_all hT rfl rfl mem2 rfl)
    | (apply es_load; (iterate 5 exact rfl); first | exact ld_blk hT rfl rfl m1 rfl rfl | exact ld_all hT rfl rfl m1 rfl)
    | (apply es_load; (iterate 5 exact rfl); first | exact ld_blk hT rfl rfl (List.mem_cons_of_mem _ m1) rfl rfl | exact ld_all hT rfl rfl (List.mem_cons_of_mem _ m1) rfl)
    | (apply es_box; (iterate 5 exact rfl); intro _) | (apply es_alloc hT; (iterate 5 exact rfl); intro _)
    | (apply aw_condT; (iterate 2 exact rfl)) | (apply aw_condF; (iterate 2 exact rfl))
    | (apply es_case; exact rfl; all_goals intro hb; all_goals (try simp only [hb]); all_goals (first | replace hb := of_decide_eq_true hb | replace hb := of_decide_eq_false hb | replace hb := bne_t hb | replace hb := bne_f hb | skip); all_goals (try (exfalso; omega)))
    | (apply aw_cond; exact rfl; all_goals intro hb; all_goals (try simp only [hb]); all_goals (first | replace hb := of_decide_eq_true hb | replace hb := of_decide_eq_false hb | replace hb := bne_t hb | replace hb := bne_f hb | skip); all_goals (try (exfalso; omega))))
  refine aw_conv (fun w hw => ⟨_, hw.own_nil 29 6, ?_⟩)
  refine aw_loop (α := Nat × Option Addr × Nat) (E := fun x => [(0, .pointer (some ⟨p, 0, none⟩)), (1, .int .i64 s), (5, .slice x.2.1 (sideO s (l.take x.1)).length x.2.2), (6, .int .i64 x.1)])
    (H := fun x => .own x.2.1 (sideO s (l.take x.1)).length x.2.2 29 6 ((sideO s (l.take x.1)).flatMap Order.enc) :: h) (μ := fun x => l.length - x.1)
    (S := fun x => x.1 ≤ l.length) (0, none, 0) (J := []) (Nat.zero_le _) ⟨rfl, rfl, rfl, rfl, trivial⟩ (List.Perm.refl _) ?_
  rintro ⟨k, A5, c5⟩ hk
  dsimp only at hk ⊢
  by_cases hlt : k < l.length
  · obtain ⟨x, hx⟩ : ∃ x, l[k]? = some x := ⟨l[k]'(by omega), List.getElem?_eq_getElem (by omega)⟩
    have hx2 : l[(k : Int).toNat]? = some x := by simpa using hx
    obtain ⟨g, hA⟩ := hsome (by omega)
    have hA2 : A.isSome = true := by rw [hA]; rfl
    have hd1 : decide ((k : Int) < (l.length : Int)) = true := by simp; omega
    have hstep := sideO_step (s := s) hx
    have hol : (sideO s (l.take k)).length ≤ k := by have := sideO_len s (l.take k); simp at this; omega
    have hos : ∀ y ∈ sideO s (l.take k), y.side = s := fun y hy => (sideO_side hy).2
    generalize hout : sideO s (l.take k) = out at hstep hol hos ⊢
    refine aw_own mem0 (fun hf5 => ?_)
    cases hlv : isSide s x
    · have hne : ¬ x.side = s := by simpa [isSide] using hlv
      rw [hlv] at hstep
      repeat' (first
        | apply aw_seq | apply aw_region | apply aw_ret | apply aw_skip | apply aw_exit | apply aw_block | apply es_nil
        | (apply es_pure hT; (iterate 4 exact rfl)) | (apply es_skip; (iterate 3 exact rfl)) | (apply es_skip0; (iterate 2 exact rfl))
        | (apply es_i64 hT; (iterate 4 exact rfl); (iterate 2 omega))
        | (apply aw_draw [] [] hmix; decide +kernel)
        | (apply es_idx hT; (iterate 8 exact rfl); (iterate 2 omega); exact hA2)
        | (apply es_load; (iterate 5 exact rfl); exact ld_fld hT rfl rfl hr.cons Order.enc_len (adr_add _ _ _) hx2 (by decide) rfl)
        | (apply es_load; (iterate 5 exact rfl); first | exact ld_blk hT rfl rfl mem0 rfl rfl | exact ld_all hT rfl rfl mem0 rfl)
        | (apply es_load; (iterate 5 exact rfl); first | exact ld_blk hT rfl rfl mem1 rfl rfl | exact ld_all hT rfl rfl mem1 rfl)
        | (apply es_load; (iterate 5 exact rfl); first | exact ld_blk hT rfl rfl mem2 rfl rfl | exact ld_all hT rfl rfl mem2 rfl)
        | (apply es_load; (iterate 5 exact rfl); first | exact ld_blk hT rfl rfl m1 rfl rfl | exact ld_all hT rfl rfl m1 rfl)
        | (apply es_load; (iterate 5 exact rfl); first | exact ld_blk hT rfl rfl (List.mem_cons_of_mem _ m1) rfl rfl | exact ld_all hT rfl rfl (List.mem_cons_of_mem _ m1) rfl)
        | (apply es_box; (iterate 5 exact rfl); intro _) | (apply es_alloc hT; (iterate 5 exact rfl); intro _)
        | (apply aw_condT; (iterate 2 exact rfl)) | (apply aw_condF; (iterate 2 exact rfl))
        | (apply es_case; exact rfl; all_goals intro hb; all_goals (try simp only [hb]); all_goals (first | replace hb := of_decide_eq_true hb | replace hb := of_decide_eq_false hb | replace hb := bne_t hb | replace hb := bne_f hb | skip); all_goals (try (exfalso; omega)))
        | (apply aw_cond; exact rfl; all_goals intro hb; all_goals (try simp only [hb]); all_goals (first | replace hb := of_decide_eq_true hb | replace hb := of_decide_eq_false hb | replace hb := bne_t hb | replace hb := bne_f hb | skip); all_goals (try (exfalso; omega))))
      all_goals first
        | (exfalso; omega)
        | (refine loopq_end (k + 1, A5, c5) (by dsimp only; omega) (by dsimp only; omega) ⟨rfl, rfl, by dsimp only; rw [hstep]; rfl, rfl, trivial⟩ ?_
           dsimp only
           rw [hstep]
           exact dt_end)
    · have hne : x.side = s := by simpa [isSide] using hlv
      rw [hlv, if_pos rfl] at hstep
      repeat' (first
        | apply aw_seq | apply aw_region | apply aw_ret | apply aw_skip | apply aw_exit | apply aw_block | apply es_nil
        | (apply es_pure hT; (iterate 4 exact rfl)) | (apply es_skip; (iterate 3 exact rfl)) | (apply es_skip0; (iterate 2 exact rfl))
        | (apply es_i64 hT; (iterate 4 exact rfl); (iterate 2 omega))
        | (apply aw_draw [] [] hmix; decide +kernel)
        | (apply es_idx hT; (iterate 8 exact rfl); (iterate 2 omega); exact hA2)
        | (apply es_load; (iterate 5 exact rfl); exact ld_fld hT rfl rfl hr.cons Order.enc_len (adr_add _ _ _) hx2 (by decide) rfl)
        | (apply es_load; (iterate 5 exact rfl); first | exact ld_blk hT rfl rfl mem0 rfl rfl | exact ld_all hT rfl rfl mem0 rfl)
        | (apply es_load; (iterate 5 exact rfl); first | exact ld_blk hT rfl rfl mem1 rfl rfl | exact ld_all hT rfl rfl mem1 rfl)
        | (apply es_load; (iterate 5 exact rfl); first | exact ld_blk hT rfl rfl mem2 rfl rfl | exact ld_all hT rfl rfl mem2 rfl)
        | (apply es_load; (iterate 5 exact rfl); first | exact ld_blk hT rfl rfl m1 rfl rfl | exact ld_all hT rfl rfl m1 rfl)
        | (apply es_load; (iterate 5 exact rfl); first | exact ld_blk hT rfl rfl (List.mem_cons_of_mem _ m1) rfl rfl | exact ld_all hT rfl rfl (List.mem_cons_of_mem _ m1) rfl)
        | (apply es_box; (iterate 5 exact rfl); intro _) | (apply es_alloc hT; (iterate 5 exact rfl); intro _)
        | (apply aw_condT; (iterate 2 exact rfl)) | (apply aw_condF; (iterate 2 exact rfl))
        | (apply es_case; exact rfl; all_goals intro hb; all_goals (try simp only [hb]); all_goals (first | replace hb := of_decide_eq_true hb | replace hb := of_decide_eq_false hb | replace hb := bne_t hb | replace hb := bne_f hb | skip); all_goals (try (exfalso; omega)))
        | (apply aw_cond; exact rfl; all_goals intro hb; all_goals (try simp only [hb]); all_goals (first | replace hb := of_decide_eq_true hb | replace hb := of_decide_eq_false hb | replace hb := bne_t hb | replace hb := bne_f hb | skip); all_goals (try (exfalso; omega))))
      all_goals try (exfalso; omega)
      refine aw_loop (α := Nat) (E := fun j => [(0, .pointer (some ⟨p, 0, none⟩)), (1, .int .i64 s), (5, .slice A5 out.length c5), (6, .int .i64 k), (7, .int .i64 j)])
        (H := fun _ => .own A5 out.length c5 29 6 (out.flatMap Order.enc) :: h) (μ := fun j => out.length - j)
        (S := fun j => j ≤ out.length ∧ ∀ (i : Nat) y, i < j → out[i]? = some y → aheadS s y x = true) 0 (J := []) ⟨Nat.zero_le _, fun i y hi => absurd hi (Nat.not_lt_zero _)⟩ ⟨rfl, rfl, rfl, rfl, rfl, trivial⟩ (List.Perm.refl _) ?_
      rintro j ⟨hj, hno⟩
      have hfin : (∀ y, out[j]? = some y → aheadS s y x = false) → insO s out x = out.take j ++ [x] ++ out.drop j := fun hn => by
        unfold insO
        rw [tw_eq (p := fun z => aheadS s z x) hj hno hn]
      by_cases hlt2 : j < out.length
      · obtain ⟨y, hy⟩ : ∃ y, out[j]? = some y := ⟨out[j]'(by omega), List.getElem?_eq_getElem (by omega)⟩
        have hy2 : out[(j : Int).toNat]? = some y := by simpa using hy
        have hA5 := hf5.some_ (by omega)
        have hd2 : decide ((j : Int) < (out.length : Int)) = true := by simp; omega
        have hys := hos y (List.mem_of_getElem? hy)
        have hah := ref14_ahead W y x
        rw [hys] at hah
        cases hal : aheadS s y x
        · rw [hal] at hah
          have hins := hfin (fun z hz => by rw [hy] at hz; cases hz; exact hal)
          rw [hins] at hstep
          have hnc5 := hf5.nc
          have R1 := (hf5.reads (W := W) (h := .own A5 out.length c5 29 6 (out.flatMap Order.enc) :: h) mem0).take hj
          have R2 := (hf5.reads (W := W) (h := .own A5 out.length c5 29 6 (out.flatMap Order.enc) :: h) mem0).cut hf5.nc hj (Nat.le_refl _)
          have hcs : ([] : List Value) ++ (out.flatMap Order.enc).take (j * 6) ++ x.enc ++ ((out.flatMap Order.enc).drop (j * 6)).take ((out.length - j) * 6) = (sideO s (l.take (k + 1))).flatMap Order.enc := by
            have e : (out.drop j).take (out.length - j) = out.drop j := List.take_of_length_le (by simp)
            rw [flat_take Order.enc_len, flat_drop Order.enc_len, flat_take Order.enc_len, e, hstep]; simp
          have hln : (sideO s (l.take (k + 1))).length = 0 + (j : Int).toNat + 1 + (out.length - (j : Int).toNat) := by rw [hstep]; simp; omega
          repeat' (first
            | apply aw_seq | apply aw_region | apply aw_ret | apply aw_skip | apply aw_exit | apply aw_block | apply es_nil
            | (apply es_pure hT; (iterate 4 exact rfl)) | (apply es_skip; (iterate 3 exact rfl)) | (apply es_skip0; (iterate 2 exact rfl))
            | (apply es_i64 hT; (iterate 4 exact rfl); (iterate 2 omega))
            | (apply aw_draw [84] [] hmix; decide +kernel)
            | (apply aw_tree [] [] (.step 1 <| .step 2 <| .step 3 <| .step 5 <| .step 6 <| .step 7 <| .step 8 <| .step 9 <| .step 10 <| .step 11 <| .step 14 <| .step 15 <| .step 16 <| .alt (.step 0 <| .alt (.step 4 <| .step 12 <| .step 13 <| .step 17 <| .step 18 <| .nil) ((.step 12 <| .step 4 <| .step 13 <| .step 17 <| .step 18 <| .nil))) ((.step 12 <| .step 0 <| .step 4 <| .step 13 <| .step 17 <| .step 18 <| .nil))) hmix; decide +kernel) | apply ep_nil | apply ep_alt | (apply ep_step; exact rfl)
            | (apply es_idx hT; (iterate 8 exact rfl); (iterate 2 omega); first | exact hA2 | exact hA5)
            | ((first | (apply es_load; (iterate 5 exact rfl)) | (apply es_loadL; (iterate 5 exact rfl); first | exact fun _ h => h)); first | exact ld_elem hT rfl rfl hr.cons Order.enc_len rfl hx2 rfl | exact ld_elem hT rfl rfl (hf5.reads mem0) Order.enc_len rfl hy2 rfl)
            | (apply es_callQ (hs := (hah.mono (by simp))); (iterate 7 exact rfl))
            | (apply es_sliceTo hT; (iterate 8 exact rfl); (iterate 2 omega))
            | (apply es_sliceFrom hT; (iterate 8 exact rfl); (iterate 2 omega); exact hf5.nc; exact rfl)
            | (apply es_buildSlice hT; (iterate 12 exact rfl); intro g)
            | (apply es_appendG hT; (iterate 10 exact rfl); (first | exact sel0 | exact sel1 | exact selS sel1 | exact selS (selS sel1) | exact selS (selS (selS sel1)) | exact selS (selS (selS (selS sel1))) | exact selS (selS (selS (selS (selS sel1)))) | exact selS (selS (selS (selS (selS (selS sel1)))))); (first | (refine R1.mono ?_; (first | exact fun _ h => h | exact fun _ h => .tail _ h | exact fun _ h => .tail _ (.tail _ h) | exact fun _ h => .tail _ (.tail _ (.tail _ h)) | exact fun _ h => .tail _ (.tail _ (.tail _ (.tail _ h))))) | (refine R2.mono ?_; (first | exact fun _ h => h | exact fun _ h => .tail _ h | exact fun _ h => .tail _ (.tail _ h) | exact fun _ h => .tail _ (.tail _ (.tail _ h)) | exact fun _ h => .tail _ (.tail _ (.tail _ (.tail _ h))))) | exact Reads.own mem0 rfl (Order.enc_one x) | exact Reads.own mem1 rfl (Order.enc_one x) | exact Reads.own mem2 rfl (Order.enc_one x)); (first | exact fun _ h => h | exact fun _ h => .tail _ h | exact fun _ h => .tail _ (.tail _ h) | exact fun _ h => .tail _ (.tail _ (.tail _ h)) | exact fun _ h => .tail _ (.tail _ (.tail _ (.tail _ h)))); omega; (show (_ : Nat) * 48 ≤ _; omega); intro A' c')
            | ((first | (apply es_load; (iterate 5 exact rfl)) | (apply es_loadL; (iterate 5 exact rfl); first | exact fun _ h => h)); first | exact ld_blk hT rfl rfl mem0 rfl rfl | exact ld_all hT rfl rfl mem0 rfl)
            | ((first | (apply es_load; (iterate 5 exact rfl)) | (apply es_loadL; (iterate 5 exact rfl); first | exact fun _ h => h)); first | exact ld_blk hT rfl rfl mem1 rfl rfl | exact ld_all hT rfl rfl mem1 rfl)
            | ((first | (apply es_load; (iterate 5 exact rfl)) | (apply es_loadL; (iterate 5 exact rfl); first | exact fun _ h => h)); first | exact ld_blk hT rfl rfl mem2 rfl rfl | exact ld_all hT rfl rfl mem2 rfl)
            | ((first | (apply es_load; (iterate 5 exact rfl)) | (apply es_loadL; (iterate 5 exact rfl); first | exact fun _ h => h)); first | exact ld_blk hT rfl rfl m1 rfl rfl | exact ld_all hT rfl rfl m1 rfl)
            | ((first | (apply es_load; (iterate 5 exact rfl)) | (apply es_loadL; (iterate 5 exact rfl); first | exact fun _ h => h)); first | exact ld_blk hT rfl rfl (List.mem_cons_of_mem _ m1) rfl rfl | exact ld_all hT rfl rfl (List.mem_cons_of_mem _ m1) rfl)
            | ((first | (apply es_load; (iterate 5 exact rfl)) | (apply es_loadL; (iterate 5 exact rfl); first | exact fun _ h => h)); first | exact ld_blk hT rfl rfl (List.mem_cons_of_mem _ (List.mem_cons_of_mem _ m1)) rfl rfl | exact ld_all hT rfl rfl (List.mem_cons_of_mem _ (List.mem_cons_of_mem _ m1)) rfl)
            | ((first | (apply es_load; (iterate 5 exact rfl)) | (apply es_loadL; (iterate 5 exact rfl); first | exact fun _ h => h)); first | exact ld_blk hT rfl rfl (List.mem_cons_of_mem _ (List.mem_cons_of_mem _ (List.mem_cons_of_mem _ m1))) rfl rfl | exact ld_all hT rfl rfl (List.mem_cons_of_mem _ (List.mem_cons_of_mem _ (List.mem_cons_of_mem _ m1))) rfl)
            | ((first | (apply es_load; (iterate 5 exact rfl)) | (apply es_loadL; (iterate 5 exact rfl); first | exact fun _ h => h)); first | exact ld_blk hT rfl rfl (List.mem_cons_of_mem _ (List.mem_cons_of_mem _ (List.mem_cons_of_mem _ (List.mem_cons_of_mem _ m1)))) rfl rfl | exact ld_all hT rfl rfl (List.mem_cons_of_mem _ (List.mem_cons_of_mem _ (List.mem_cons_of_mem _ (List.mem_cons_of_mem _ m1)))) rfl)
            | (apply es_box; (iterate 5 exact rfl); intro _) | (apply es_alloc hT; (iterate 5 exact rfl); intro _)
            | (apply aw_condT; (iterate 2 exact rfl)) | (apply aw_condF; (iterate 2 exact rfl))
            | (apply es_case; exact rfl; all_goals intro hb; all_goals (try simp only [hb]); all_goals (first | replace hb := of_decide_eq_true hb | replace hb := of_decide_eq_false hb | replace hb := bne_t hb | replace hb := bne_f hb | skip); all_goals (try (exfalso; omega)))
            | (apply aw_cond; exact rfl; all_goals intro hb; all_goals (try simp only [hb]); all_goals (first | replace hb := of_decide_eq_true hb | replace hb := of_decide_eq_false hb | replace hb := bne_t hb | replace hb := bne_f hb | skip); all_goals (try (exfalso; omega))))
          all_goals first
            | (exfalso; omega)
            | (refine loopq_end (k + 1, A', c') (by dsimp only; omega) (by dsimp only; omega) ⟨rfl, rfl, by dsimp only; rw [hln]; rfl, rfl, trivial⟩ ?_
               dsimp only
               rw [hln, ← hcs]
               apply dt_cons; (first | exact sel0 | exact sel1 | exact selS sel1 | exact selS (selS sel1) | exact selS (selS (selS sel1)) | exact selS (selS (selS (selS sel1))) | exact selS (selS (selS (selS (selS sel1)))) | exact selS (selS (selS (selS (selS (selS sel1))))))
               (repeat (first | exact dt_end | apply dt_skip)))
            | (exfalso; simp_all; done)
        · rw [hal] at hah
          repeat' (first
            | apply aw_seq | apply aw_region | apply aw_ret | apply aw_skip | apply aw_exit | apply aw_block | apply es_nil
            | (apply es_pure hT; (iterate 4 exact rfl)) | (apply es_skip; (iterate 3 exact rfl)) | (apply es_skip0; (iterate 2 exact rfl))
            | (apply es_i64 hT; (iterate 4 exact rfl); (iterate 2 omega))
            | (apply aw_draw [84] [] hmix; decide +kernel)
            | (apply es_idx hT; (iterate 8 exact rfl); (iterate 2 omega); first | exact hA2 | exact hA5)
            | (apply es_load; (iterate 5 exact rfl); first | exact ld_elem hT rfl rfl hr.cons Order.enc_len rfl hx2 rfl | exact ld_elem hT rfl rfl (hf5.reads mem0) Order.enc_len rfl hy2 rfl)
            | (apply es_callQ (hs := (hah.mono (by simp))); (iterate 7 exact rfl))
            | (apply es_load; (iterate 5 exact rfl); first | exact ld_blk hT rfl rfl mem0 rfl rfl | exact ld_all hT rfl rfl mem0 rfl)
            | (apply es_load; (iterate 5 exact rfl); first | exact ld_blk hT rfl rfl mem1 rfl rfl | exact ld_all hT rfl rfl mem1 rfl)
            | (apply es_load; (iterate 5 exact rfl); first | exact ld_blk hT rfl rfl mem2 rfl rfl | exact ld_all hT rfl rfl mem2 rfl)
            | (apply es_load; (iterate 5 exact rfl); first | exact ld_blk hT rfl rfl m1 rfl rfl | exact ld_all hT rfl rfl m1 rfl)
            | (apply es_load; (iterate 5 exact rfl); first | exact ld_blk hT rfl rfl (List.mem_cons_of_mem _ m1) rfl rfl | exact ld_all hT rfl rfl (List.mem_cons_of_mem _ m1) rfl)
            | (apply es_box; (iterate 5 exact rfl); intro _) | (apply es_alloc hT; (iterate 5 exact rfl); intro _)
            | (apply aw_condT; (iterate 2 exact rfl)) | (apply aw_condF; (iterate 2 exact rfl))
            | (apply es_case; exact rfl; all_goals intro hb; all_goals (try simp only [hb]); all_goals (first | replace hb := of_decide_eq_true hb | replace hb := of_decide_eq_false hb | replace hb := bne_t hb | replace hb := bne_f hb | skip); all_goals (try (exfalso; omega)))
            | (apply aw_cond; exact rfl; all_goals intro hb; all_goals (try simp only [hb]); all_goals (first | replace hb := of_decide_eq_true hb | replace hb := of_decide_eq_false hb | replace hb := bne_t hb | replace hb := bne_f hb | skip); all_goals (try (exfalso; omega))))
          all_goals first
            | (exfalso; omega)
            | apply blockq_n; exact loopq_end (j + 1) (by (try dsimp only); omega) ⟨by (try dsimp only); omega, fun i z hi hz => by
                by_cases hij : i = j
                · rw [hij, hy] at hz; cases hz; exact hal
                · exact hno i z (by (try dsimp only at hi); omega) hz⟩ ⟨rfl, rfl, rfl, rfl, rfl, trivial⟩ dt_end
            | (exfalso; simp_all; done)
      · have hins := hfin (fun z hz => by have := (List.getElem?_eq_some_iff.1 hz).1; omega)
        rw [hins] at hstep
        have hd2 : decide ((j : Int) < (out.length : Int)) = false := by simp; omega
        have hah := ref14_ahead W x x
        have hy2 := hx2
        have hA5 := hA2
        have hnc5 := hf5.nc
        have R1 := (hf5.reads (W := W) (h := .own A5 out.length c5 29 6 (out.flatMap Order.enc) :: h) mem0).take hj
        have R2 := (hf5.reads (W := W) (h := .own A5 out.length c5 29 6 (out.flatMap Order.enc) :: h) mem0).cut hf5.nc hj (Nat.le_refl _)
        have hcs : ([] : List Value) ++ (out.flatMap Order.enc).take (j * 6) ++ x.enc ++ ((out.flatMap Order.enc).drop (j * 6)).take ((out.length - j) * 6) = (sideO s (l.take (k + 1))).flatMap Order.enc := by
          have e : (out.drop j).take (out.length - j) = out.drop j := List.take_of_length_le (by simp)
          rw [flat_take Order.enc_len, flat_drop Order.enc_len, flat_take Order.enc_len, e, hstep]; simp
        have hln : (sideO s (l.take (k + 1))).length = 0 + (j : Int).toNat + 1 + (out.length - (j : Int).toNat) := by rw [hstep]; simp; omega
        repeat' (first
          | apply aw_seq | apply aw_region | apply aw_ret | apply aw_skip | apply aw_exit | apply aw_block | apply es_nil
          | (apply es_pure hT; (iterate 4 exact rfl)) | (apply es_skip; (iterate 3 exact rfl)) | (apply es_skip0; (iterate 2 exact rfl))
          | (apply es_i64 hT; (iterate 4 exact rfl); (iterate 2 omega))
          | (apply aw_draw [84] [] hmix; decide +kernel)
          | (apply aw_tree [] [] (.step 1 <| .step 2 <| .step 3 <| .step 5 <| .step 6 <| .step 7 <| .step 8 <| .step 9 <| .step 10 <| .step 11 <| .step 14 <| .step 15 <| .step 16 <| .alt (.step 0 <| .alt (.step 4 <| .step 12 <| .step 13 <| .step 17 <| .step 18 <| .nil) ((.step 12 <| .step 4 <| .step 13 <| .step 17 <| .step 18 <| .nil))) ((.step 12 <| .step 0 <| .step 4 <| .step 13 <| .step 17 <| .step 18 <| .nil))) hmix; decide +kernel) | apply ep_nil | apply ep_alt | (apply ep_step; exact rfl)
          | (apply es_idx hT; (iterate 8 exact rfl); (iterate 2 omega); first | exact hA2 | exact hA5)
          | ((first | (apply es_load; (iterate 5 exact rfl)) | (apply es_loadL; (iterate 5 exact rfl); first | exact fun _ h => h)); first | exact ld_elem hT rfl rfl hr.cons Order.enc_len rfl hx2 rfl | exact ld_elem hT rfl rfl (hf5.reads mem0) Order.enc_len rfl hy2 rfl)
          | (apply es_callQ (hs := (hah.mono (by simp))); (iterate 7 exact rfl))
          | (apply es_sliceTo hT; (iterate 8 exact rfl); (iterate 2 omega))
          | (apply es_sliceFrom hT; (iterate 8 exact rfl); (iterate 2 omega); exact hf5.nc; exact rfl)
          | (apply es_buildSlice hT; (iterate 12 exact rfl); intro g)
          | (apply es_appendG hT; (iterate 10 exact rfl); (first | exact sel0 | exact sel1 | exact selS sel1 | exact selS (selS sel1) | exact selS (selS (selS sel1)) | exact selS (selS (selS (selS sel1))) | exact selS (selS (selS (selS (selS sel1)))) | exact selS (selS (selS (selS (selS (selS sel1)))))); (first | (refine R1.mono ?_; (first | exact fun _ h => h | exact fun _ h => .tail _ h | exact fun _ h => .tail _ (.tail _ h) | exact fun _ h => .tail _ (.tail _ (.tail _ h)) | exact fun _ h => .tail _ (.tail _ (.tail _ (.tail _ h))))) | (refine R2.mono ?_; (first | exact fun _ h => h | exact fun _ h => .tail _ h | exact fun _ h => .tail _ (.tail _ h) | exact fun _ h => .tail _ (.tail _ (.tail _ h)) | exact fun _ h => .tail _ (.tail _ (.tail _ (.tail _ h))))) | exact Reads.own mem0 rfl (Order.enc_one x) | exact Reads.own mem1 rfl (Order.enc_one x) | exact Reads.own mem2 rfl (Order.enc_one x)); (first | exact fun _ h => h | exact fun _ h => .tail _ h | exact fun _ h => .tail _ (.tail _ h) | exact fun _ h => .tail _ (.tail _ (.tail _ h)) | exact fun _ h => .tail _ (.tail _ (.tail _ (.tail _ h)))); omega; (show (_ : Nat) * 48 ≤ _; omega); intro A' c')
          | ((first | (apply es_load; (iterate 5 exact rfl)) | (apply es_loadL; (iterate 5 exact rfl); first | exact fun _ h => h)); first | exact ld_blk hT rfl rfl mem0 rfl rfl | exact ld_all hT rfl rfl mem0 rfl)
          | ((first | (apply es_load; (iterate 5 exact rfl)) | (apply es_loadL; (iterate 5 exact rfl); first | exact fun _ h => h)); first | exact ld_blk hT rfl rfl mem1 rfl rfl | exact ld_all hT rfl rfl mem1 rfl)
          | ((first | (apply es_load; (iterate 5 exact rfl)) | (apply es_loadL; (iterate 5 exact rfl); first | exact fun _ h => h)); first | exact ld_blk hT rfl rfl mem2 rfl rfl | exact ld_all hT rfl rfl mem2 rfl)
          | ((first | (apply es_load; (iterate 5 exact rfl)) | (apply es_loadL; (iterate 5 exact rfl); first | exact fun _ h => h)); first | exact ld_blk hT rfl rfl m1 rfl rfl | exact ld_all hT rfl rfl m1 rfl)
          | ((first | (apply es_load; (iterate 5 exact rfl)) | (apply es_loadL; (iterate 5 exact rfl); first | exact fun _ h => h)); first | exact ld_blk hT rfl rfl (List.mem_cons_of_mem _ m1) rfl rfl | exact ld_all hT rfl rfl (List.mem_cons_of_mem _ m1) rfl)
          | ((first | (apply es_load; (iterate 5 exact rfl)) | (apply es_loadL; (iterate 5 exact rfl); first | exact fun _ h => h)); first | exact ld_blk hT rfl rfl (List.mem_cons_of_mem _ (List.mem_cons_of_mem _ m1)) rfl rfl | exact ld_all hT rfl rfl (List.mem_cons_of_mem _ (List.mem_cons_of_mem _ m1)) rfl)
          | ((first | (apply es_load; (iterate 5 exact rfl)) | (apply es_loadL; (iterate 5 exact rfl); first | exact fun _ h => h)); first | exact ld_blk hT rfl rfl (List.mem_cons_of_mem _ (List.mem_cons_of_mem _ (List.mem_cons_of_mem _ m1))) rfl rfl | exact ld_all hT rfl rfl (List.mem_cons_of_mem _ (List.mem_cons_of_mem _ (List.mem_cons_of_mem _ m1))) rfl)
          | ((first | (apply es_load; (iterate 5 exact rfl)) | (apply es_loadL; (iterate 5 exact rfl); first | exact fun _ h => h)); first | exact ld_blk hT rfl rfl (List.mem_cons_of_mem _ (List.mem_cons_of_mem _ (List.mem_cons_of_mem _ (List.mem_cons_of_mem _ m1)))) rfl rfl | exact ld_all hT rfl rfl (List.mem_cons_of_mem _ (List.mem_cons_of_mem _ (List.mem_cons_of_mem _ (List.mem_cons_of_mem _ m1)))) rfl)
          | (apply es_box; (iterate 5 exact rfl); intro _) | (apply es_alloc hT; (iterate 5 exact rfl); intro _)
          | (apply aw_condT; (iterate 2 exact rfl)) | (apply aw_condF; (iterate 2 exact rfl))
          | (apply es_case; exact rfl; all_goals intro hb; all_goals (try simp only [hb]); all_goals (first | replace hb := of_decide_eq_true hb | replace hb := of_decide_eq_false hb | replace hb := bne_t hb | replace hb := bne_f hb | skip); all_goals (try (exfalso; omega)))
          | (apply aw_cond; exact rfl; all_goals intro hb; all_goals (try simp only [hb]); all_goals (first | replace hb := of_decide_eq_true hb | replace hb := of_decide_eq_false hb | replace hb := bne_t hb | replace hb := bne_f hb | skip); all_goals (try (exfalso; omega))))
        all_goals first
          | (exfalso; omega)
          | (refine loopq_end (k + 1, A', c') (by dsimp only; omega) (by dsimp only; omega) ⟨rfl, rfl, by dsimp only; rw [hln]; rfl, rfl, trivial⟩ ?_
             dsimp only
             rw [hln, ← hcs]
             apply dt_cons; (first | exact sel0 | exact sel1 | exact selS sel1 | exact selS (selS sel1) | exact selS (selS (selS sel1)) | exact selS (selS (selS (selS sel1))) | exact selS (selS (selS (selS (selS sel1)))) | exact selS (selS (selS (selS (selS (selS sel1))))))
             (repeat (first | exact dt_end | apply dt_skip)))
          | (exfalso; simp_all; done)
  · obtain rfl : k = l.length := by omega
    have hd1 : decide ((l.length : Int) < (l.length : Int)) = false := by simp
    rw [List.take_length]
    repeat' (first
      | apply aw_seq | apply aw_region | apply aw_ret | apply aw_skip | apply aw_exit | apply aw_block | apply es_nil
      | (apply es_pure hT; (iterate 4 exact rfl)) | (apply es_skip; (iterate 3 exact rfl)) | (apply es_skip0; (iterate 2 exact rfl))
      | (apply es_i64 hT; (iterate 4 exact rfl); (iterate 2 omega))
      | (apply aw_draw [] [] hmix; decide +kernel)
      | (apply es_load; (iterate 5 exact rfl); first | exact ld_blk hT rfl rfl mem0 rfl rfl | exact ld_all hT rfl rfl mem0 rfl)
      | (apply es_load; (iterate 5 exact rfl); first | exact ld_blk hT rfl rfl mem1 rfl rfl | exact ld_all hT rfl rfl mem1 rfl)
      | (apply es_load; (iterate 5 exact rfl); first | exact ld_blk hT rfl rfl mem2 rfl rfl | exact ld_all hT rfl rfl mem2 rfl)
      | (apply es_load; (iterate 5 exact rfl); first | exact ld_blk hT rfl rfl m1 rfl rfl | exact ld_all hT rfl rfl m1 rfl)
      | (apply es_load; (iterate 5 exact rfl); first | exact ld_blk hT rfl rfl (List.mem_cons_of_mem _ m1) rfl rfl | exact ld_all hT rfl rfl (List.mem_cons_of_mem _ m1) rfl)
      | (apply es_box; (iterate 5 exact rfl); intro _) | (apply es_alloc hT; (iterate 5 exact rfl); intro _)
      | (apply aw_condT; (iterate 2 exact rfl)) | (apply aw_condF; (iterate 2 exact rfl))
      | (apply es_case; exact rfl; all_goals intro hb; all_goals (try simp only [hb]); all_goals (first | replace hb := of_decide_eq_true hb | replace hb := of_decide_eq_false hb | replace hb := bne_t hb | replace hb := bne_f hb | skip); all_goals (try (exfalso; omega)))
      | (apply aw_cond; exact rfl; all_goals intro hb; all_goals (try simp only [hb]); all_goals (first | replace hb := of_decide_eq_true hb | replace hb := of_decide_eq_false hb | replace hb := bne_t hb | replace hb := bne_f hb | skip); all_goals (try (exfalso; omega))))
    all_goals first
      | (exfalso; omega)
      | (apply ret1; exact rfl
         exact ⟨.own A5 (sideO s l).length c5 29 6 ((sideO s l).flatMap Order.enc) :: h, dt_end, fun w hw => ⟨A5, c5, rfl, rfl, hw.ownF mem0⟩⟩)

theorem ref14_Shows (W : World) (h : List Chunk) (A1 A2 : Option Addr) (c1 c2 : Nat) (l1 l2 : List Lvl) (hr1 : Reads W h A1 l1.length 2 (l1.flatMap Lvl.enc)) (hr2 : Reads W h A2 l2.length 2 (l2.flatMap Lvl.enc)) (hb : l1.length ≤ 1000000) :
    QSpec Try.prog W 42 [.slice A1 l1.length c1, .slice A2 l2.length c2] h (.bool (decide (l1 = l2))) := by
  refine QSpec.ofD (fun h' hs => ?_)
  have hr1 := hr1.mono hs
  have hr2 := hr2.mono hs
  refine spec_body Try.func42 rfl rfl Try.results42 Try.ntmps42 rfl rfl ?_
  refine aw_reads hr1 (by rfl) (fun hA1 => ?_)
  refine aw_reads hr2 (by rfl) (fun hA2 => ?_)
  by_cases hl : l1.length = l2.length
  · have hd : ((l1.length : Int) != (l2.length : Int)) = false := by simp [hl]
    repeat' (first
      | apply aw_seq | apply aw_region | apply aw_ret | apply aw_skip | apply aw_exit | apply aw_block | apply es_nil
      | (apply es_pure hT; (iterate 4 exact rfl)) | (apply es_skip; (iterate 3 exact rfl)) | (apply es_skip0; (iterate 2 exact rfl))
      | (apply es_i64 hT; (iterate 4 exact rfl); (iterate 2 omega))
      | (apply aw_draw [] [] hmix; decide +kernel)
      | (apply es_load; (iterate 5 exact rfl); first | exact ld_blk hT rfl rfl mem0 rfl rfl | exact ld_all hT rfl rfl mem0 rfl)
      | (apply es_load; (iterate 5 exact rfl); first | exact ld_blk hT rfl rfl mem1 rfl rfl | exact ld_all hT rfl rfl mem1 rfl)
      | (apply es_load; (iterate 5 exact rfl); first | exact ld_blk hT rfl rfl mem2 rfl rfl | exact ld_all hT rfl rfl mem2 rfl)
      | (apply es_box; (iterate 5 exact rfl); intro _) | (apply es_alloc hT; (iterate 5 exact rfl); intro _)
      | (apply aw_condT; (iterate 2 exact rfl)) | (apply aw_condF; (iterate 2 exact rfl))
      | (apply es_case; exact rfl; all_goals intro hb; all_goals (try simp only [hb]); all_goals (first | replace hb := of_decide_eq_true hb | replace hb := of_decide_eq_false hb | replace hb := bne_t hb | replace hb := bne_f hb | skip); all_goals (try (exfalso; omega)))
      | (apply aw_cond; exact rfl; all_goals intro hb; all_goals (try simp only [hb]); all_goals (first | replace hb := of_decide_eq_true hb | replace hb := of_decide_eq_false hb | replace hb := bne_t hb | replace hb := bne_f hb | skip); all_goals (try (exfalso; omega))))
    refine aw_loop (α := Nat) (E := fun k => [(0, .slice A1 l1.length c1), (1, .slice A2 l2.length c2), (5, .int .i64 k)]) (H := fun _ => h') (μ := fun k => l1.length - k)
      (S := fun k => k ≤ l1.length ∧ l1.take k = l2.take k) 0 (J := []) ⟨Nat.zero_le _, rfl⟩ ⟨rfl, rfl, rfl, trivial⟩ (List.Perm.refl _) ?_
    rintro k ⟨hk, he⟩
    by_cases hlt : k < l1.length
    · obtain ⟨x, hx⟩ : ∃ x, l1[k]? = some x := ⟨l1[k]'(by omega), List.getElem?_eq_getElem (by omega)⟩
      obtain ⟨y, hy⟩ : ∃ y, l2[k]? = some y := ⟨l2[k]'(by omega), List.getElem?_eq_getElem (by omega)⟩
      have hx2 : l1[(k : Int).toNat]? = some x := by simpa using hx
      have hy2 : l2[(k : Int).toNat]? = some y := by simpa using hy
      have hA1 := hA1 (by omega)
      have hA2 := hA2 (by omega)
      have hd1 : decide ((k : Int) < (l1.length : Int)) = true := by simp; omega
      repeat' (first
        | apply aw_seq | apply aw_region | apply aw_ret | apply aw_skip | apply aw_exit | apply aw_block | apply es_nil
        | (apply es_pure hT; (iterate 4 exact rfl)) | (apply es_skip; (iterate 3 exact rfl)) | (apply es_skip0; (iterate 2 exact rfl))
        | (apply es_i64 hT; (iterate 4 exact rfl); (iterate 2 omega))
        | (apply aw_draw [] [] hmix; decide +kernel)
        | (apply es_idx hT; (iterate 8 exact rfl); (iterate 2 omega); first | exact hA1 | exact hA2)
        | (apply es_load; (iterate 5 exact rfl); first | exact ld_elem hT rfl rfl hr1 Lvl.enc_len rfl hx2 rfl | exact ld_elem hT rfl rfl hr2 Lvl.enc_len rfl hy2 rfl)
        | (apply es_neS hT; (iterate 5 exact rfl); exact rfl; exact sOKLevel)
        | (apply es_load; (iterate 5 exact rfl); first | exact ld_blk hT rfl rfl mem0 rfl rfl | exact ld_all hT rfl rfl mem0 rfl)
        | (apply es_load; (iterate 5 exact rfl); first | exact ld_blk hT rfl rfl mem1 rfl rfl | exact ld_all hT rfl rfl mem1 rfl)
        | (apply es_load; (iterate 5 exact rfl); first | exact ld_blk hT rfl rfl mem2 rfl rfl | exact ld_all hT rfl rfl mem2 rfl)
        | (apply es_box; (iterate 5 exact rfl); intro _) | (apply es_alloc hT; (iterate 5 exact rfl); intro _)
        | (apply aw_condT; (iterate 2 exact rfl)) | (apply aw_condF; (iterate 2 exact rfl))
        | (apply es_case; exact rfl; all_goals intro hb; all_goals (try simp only [hb]); all_goals (first | replace hb := of_decide_eq_true hb | replace hb := of_decide_eq_false hb | replace hb := bne_t hb | replace hb := bne_f hb | skip); all_goals (try (exfalso; omega)))
        | (apply aw_cond; exact rfl; all_goals intro hb; all_goals (try simp only [hb]); all_goals (first | replace hb := of_decide_eq_true hb | replace hb := of_decide_eq_false hb | replace hb := bne_t hb | replace hb := bne_f hb | skip); all_goals (try (exfalso; omega))))
      · have hxy : x ≠ y := fun e => by subst e; simp at hb
        apply ret1; exact rfl
        refine ⟨?_, dt_end⟩
        rw [decide_eq_false (fun e => hxy (by rw [e, hy] at hx; exact (Option.some.inj hx).symm))]
      · have hxy : x = y := by cases x; cases y; simpa [and_assoc] using hb
        exact ⟨k + 1, [], by dsimp only; omega, ⟨by omega, by rw [List.take_add_one, List.take_add_one, he, hx, hy, hxy]⟩, ⟨rfl, rfl, rfl, trivial⟩, List.Perm.refl _⟩
    · have hd1 : decide ((k : Int) < (l1.length : Int)) = false := by simp; omega
      obtain rfl : k = l1.length := by omega
      repeat' (first
        | apply aw_seq | apply aw_region | apply aw_ret | apply aw_skip | apply aw_exit | apply aw_block | apply es_nil
        | (apply es_pure hT; (iterate 4 exact rfl)) | (apply es_skip; (iterate 3 exact rfl)) | (apply es_skip0; (iterate 2 exact rfl))
        | (apply es_i64 hT; (iterate 4 exact rfl); (iterate 2 omega))
        | (apply aw_draw [] [] hmix; decide +kernel)
        | (apply es_load; (iterate 5 exact rfl); first | exact ld_blk hT rfl rfl mem0 rfl rfl | exact ld_all hT rfl rfl mem0 rfl)
        | (apply es_load; (iterate 5 exact rfl); first | exact ld_blk hT rfl rfl mem1 rfl rfl | exact ld_all hT rfl rfl mem1 rfl)
        | (apply es_load; (iterate 5 exact rfl); first | exact ld_blk hT rfl rfl mem2 rfl rfl | exact ld_all hT rfl rfl mem2 rfl)
        | (apply es_box; (iterate 5 exact rfl); intro _) | (apply es_alloc hT; (iterate 5 exact rfl); intro _)
        | (apply aw_condT; (iterate 2 exact rfl)) | (apply aw_condF; (iterate 2 exact rfl))
        | (apply es_case; exact rfl; all_goals intro hb; all_goals (try simp only [hb]); all_goals (first | replace hb := of_decide_eq_true hb | replace hb := of_decide_eq_false hb | replace hb := bne_t hb | replace hb := bne_f hb | skip); all_goals (try (exfalso; omega)))
        | (apply aw_cond; exact rfl; all_goals intro hb; all_goals (try simp only [hb]); all_goals (first | replace hb := of_decide_eq_true hb | replace hb := of_decide_eq_false hb | replace hb := bne_t hb | replace hb := bne_f hb | skip); all_goals (try (exfalso; omega))))
      apply ret1; exact rfl
      refine ⟨?_, dt_end⟩
      rw [decide_eq_true (show l1 = l2 by rw [List.take_length] at he; rw [he, hl, List.take_length])]
  · have hd : ((l1.length : Int) != (l2.length : Int)) = true := by simp; omega
    repeat' (first
      | apply aw_seq | apply aw_region | apply aw_ret | apply aw_skip | apply aw_exit | apply aw_block | apply es_nil
      | (apply es_pure hT; (iterate 4 exact rfl)) | (apply es_skip; (iterate 3 exact rfl)) | (apply es_skip0; (iterate 2 exact rfl))
      | (apply es_i64 hT; (iterate 4 exact rfl); (iterate 2 omega))
      | (apply aw_draw [] [] hmix; decide +kernel)
      | (apply es_load; (iterate 5 exact rfl); first | exact ld_blk hT rfl rfl mem0 rfl rfl | exact ld_all hT rfl rfl mem0 rfl)
      | (apply es_load; (iterate 5 exact rfl); first | exact ld_blk hT rfl rfl mem1 rfl rfl | exact ld_all hT rfl rfl mem1 rfl)
      | (apply es_load; (iterate 5 exact rfl); first | exact ld_blk hT rfl rfl mem2 rfl rfl | exact ld_all hT rfl rfl mem2 rfl)
      | (apply es_box; (iterate 5 exact rfl); intro _) | (apply es_alloc hT; (iterate 5 exact rfl); intro _)
      | (apply aw_condT; (iterate 2 exact rfl)) | (apply aw_condF; (iterate 2 exact rfl))
      | (apply es_case; exact rfl; all_goals intro hb; all_goals (try simp only [hb]); all_goals (first | replace hb := of_decide_eq_true hb | replace hb := of_decide_eq_false hb | replace hb := bne_t hb | replace hb := bne_f hb | skip); all_goals (try (exfalso; omega)))
      | (apply aw_cond; exact rfl; all_goals intro hb; all_goals (try simp only [hb]); all_goals (first | replace hb := of_decide_eq_true hb | replace hb := of_decide_eq_false hb | replace hb := bne_t hb | replace hb := bne_f hb | skip); all_goals (try (exfalso; omega))))
    apply ret1; exact rfl
    refine ⟨?_, dt_end⟩
    rw [decide_eq_false (fun e => hl (by rw [e]))]
end Go.Proofs.Ytiefkpfamkkapaa
