/- The document's answer on books, more: Drop, Less, Side, Levels, Shows. Conditions stand in each statement. -/
import Derived.Test.YtiefkpfamkkapaaRef14
set_option linter.unusedSimpArgs false
set_option linter.unusedVariables false
namespace Go.Proofs.Ytiefkpfamkkapaa
open Go Go.Sl
attribute [local irreducible] AW ES EP Ld RetQ
set_option maxRecDepth 100000

set_option maxHeartbeats 2000000 in
theorem ref14_Drop (W : World) (F : List Chunk) (p : Nat) (A : Option Addr) (c : Nat) (l : List Order) (id : Int) (hb : l.length ≤ 1000000) :
    FSpec Try.prog W 38 [.pointer (some ⟨p, 0, none⟩), .int .i64 id] (refB p A c l F) (fun v h' => v = gotO (getO id l) ∧ ∃ A' c', h' = refB p A' c' (dropO id l) F) := by
  refine FSpec.dropTo ?_
  refine spec_body Try.func38 rfl rfl Try.results38 Try.ntmps38 rfl rfl ?_
  refine aw_fact (h := refB p A c l F) mem1 (fun hl hnc hcc hsome hnone hone => ?_)
  have hr : Reads W (refB p A c l F) A l.length 6 (l.flatMap Order.enc) := Reads.own mem1 hl hone
  have hfind := (ref14_find W p A c l id hb).mono (h' := refB p A c l F) (memPairB mem0 mem1)
  unfold getO dropO
  rcases find_at (p := hasO id) l with ⟨hi, hf⟩ | ⟨i, x, hi, hx, hp, hf⟩
  · rw [hi] at hfind ⊢
    rw [hf]
    repeat' (first
      | apply aw_seq | apply aw_region | apply aw_ret | apply aw_skip | apply aw_exit | apply aw_block | apply es_nil
      | (apply es_pure hT; (iterate 4 exact rfl)) | (apply es_skip; (iterate 3 exact rfl)) | (apply es_skip0; (iterate 2 exact rfl))
      | (apply es_i64 hT; (iterate 4 exact rfl); (iterate 2 omega))
      | (apply aw_draw [] [] hmix; decide +kernel)
      | (apply es_alloc hT; (iterate 5 exact rfl); intro g4)
      | (apply es_callQ (hs := (hfind.mono (fun c hc => .tail _ hc))); (iterate 7 exact rfl))
      | (apply es_build hT; (iterate 4 exact rfl))
      | (apply es_store hT; (iterate 6 exact rfl); (first | exact sel0 | exact sel1 | exact selS sel1 | exact selS (selS sel1) | exact selS (selS (selS sel1)) | exact selS (selS (selS (selS sel1))) | exact selS (selS (selS (selS (selS sel1)))) | exact selS (selS (selS (selS (selS (selS sel1)))))); (iterate 3 exact rfl); exact Nat.le_of_ble_eq_true rfl)
      | (apply es_load; (iterate 5 exact rfl); first | exact ld_blk hT rfl rfl mem0 rfl rfl | exact ld_all hT rfl rfl mem0 rfl)
      | (apply es_load; (iterate 5 exact rfl); first | exact ld_blk hT rfl rfl mem1 rfl rfl | exact ld_all hT rfl rfl mem1 rfl)
      | (apply es_load; (iterate 5 exact rfl); first | exact ld_blk hT rfl rfl mem2 rfl rfl | exact ld_all hT rfl rfl mem2 rfl)
      | (apply es_box; (iterate 5 exact rfl); intro _) | (apply es_alloc hT; (iterate 5 exact rfl); intro _)
      | (apply aw_condT; (iterate 2 exact rfl)) | (apply aw_condF; (iterate 2 exact rfl))
      | (apply es_case; exact rfl; all_goals intro hb; all_goals (try simp only [hb]); all_goals (first | replace hb := of_decide_eq_true hb | replace hb := of_decide_eq_false hb | replace hb := bne_t hb | replace hb := bne_f hb | skip); all_goals (try (exfalso; omega)))
      | (apply aw_cond; exact rfl; all_goals intro hb; all_goals (try simp only [hb]); all_goals (first | replace hb := of_decide_eq_true hb | replace hb := of_decide_eq_false hb | replace hb := bne_t hb | replace hb := bne_f hb | skip); all_goals (try (exfalso; omega))))
    all_goals first
      | (apply ret2c; exact rfl; exact ld_all hT rfl rfl mem0 rfl; exact rfl; exact ⟨refB p A c l F, dt_skip dt_end, rfl, A, c, rfl⟩)
      | (exfalso; omega)
  · have hlt := (List.getElem?_eq_some_iff.1 hx).1
    rw [hi] at hfind ⊢
    rw [hf]
    obtain ⟨g, hA⟩ := hsome (by omega)
    have hA2 : A.isSome = true := by rw [hA]; rfl
    have hx2 : l[((i : Nat) : Int).toNat]? = some x := by simpa using hx
    have hni : ¬ ((i : Nat) : Int) < 0 := by omega
    have hcs : ([] : List Value) ++ (l.flatMap Order.enc).take (i * 6) ++ ((l.flatMap Order.enc).drop ((i + 1) * 6)).take ((l.length - (i + 1)) * 6) = (l.take i ++ l.drop (i + 1)).flatMap Order.enc := by
      have e : (l.drop (i + 1)).take (l.length - (i + 1)) = l.drop (i + 1) := List.take_of_length_le (by simp)
      rw [flat_take Order.enc_len, flat_drop Order.enc_len, flat_take Order.enc_len, e]; simp
    have hln : (l.take i ++ l.drop (i + 1)).length = 0 + ((i : Nat) : Int).toNat + (l.length - (((i : Nat) : Int) + 1).toNat) := by simp; omega
    have R1 := hr.take (Nat.le_of_lt hlt)
    have R2 := hr.cut hnc (show i + 1 ≤ l.length by omega) (Nat.le_refl _)
    rw [if_neg hni, Int.toNat_natCast]
    repeat' (first
      | apply aw_seq | apply aw_region | apply aw_ret | apply aw_skip | apply aw_exit | apply aw_block | apply es_nil
      | (apply es_pure hT; (iterate 4 exact rfl)) | (apply es_skip; (iterate 3 exact rfl)) | (apply es_skip0; (iterate 2 exact rfl))
      | (apply es_i64 hT; (iterate 4 exact rfl); (iterate 2 omega))
      | (apply aw_tree [] [] (.step 0 <| .step 2 <| .step 3 <| .step 4 <| .step 5 <| .step 6 <| .step 7 <| .step 9 <| .step 10 <| .step 11 <| .step 12 <| .step 13 <| .step 14 <| .step 15 <| .step 1 <| .step 8 <| .step 16 <| .step 17 <| .step 18 <| .step 19 <| .nil) hmix; decide +kernel) | apply ep_nil | apply ep_alt | (apply ep_step; exact rfl)
      | (apply es_alloc hT; (iterate 5 exact rfl); intro g4)
      | (apply es_callQ (hs := (hfind.mono (fun c hc => .tail _ hc))); (iterate 7 exact rfl))
      | (apply es_idx hT; (iterate 8 exact rfl); (iterate 2 omega); exact hA2)
      | ((first | (apply es_load; (iterate 5 exact rfl)) | (apply es_loadL; (iterate 5 exact rfl); first | exact fun _ h => h)); first | exact ld_elem hT rfl rfl hr.cons Order.enc_len rfl hx2 rfl | exact ld_all hT rfl rfl mem2 rfl)
      | (apply es_sliceTo hT; (iterate 8 exact rfl); (iterate 2 omega))
      | (apply es_sliceFrom hT; (iterate 8 exact rfl); (iterate 3 omega); exact rfl)
      | (apply es_buildSlice hT; (iterate 12 exact rfl); intro g)
      | (apply es_appendG hT; (iterate 10 exact rfl); (first | exact sel0 | exact sel1 | exact selS sel1 | exact selS (selS sel1) | exact selS (selS (selS sel1)) | exact selS (selS (selS (selS sel1))) | exact selS (selS (selS (selS (selS sel1)))) | exact selS (selS (selS (selS (selS (selS sel1)))))); (first | (refine R1.mono ?_; (first | exact fun _ h => h | exact fun _ h => .tail _ h | exact fun _ h => .tail _ (.tail _ h) | exact fun _ h => .tail _ (.tail _ (.tail _ h)) | exact fun _ h => .tail _ (.tail _ (.tail _ (.tail _ h))))) | (refine R2.mono ?_; (first | exact fun _ h => h | exact fun _ h => .tail _ h | exact fun _ h => .tail _ (.tail _ h) | exact fun _ h => .tail _ (.tail _ (.tail _ h)) | exact fun _ h => .tail _ (.tail _ (.tail _ (.tail _ h)))))); (first | exact fun _ h => h | exact fun _ h => .tail _ h | exact fun _ h => .tail _ (.tail _ h) | exact fun _ h => .tail _ (.tail _ (.tail _ h)) | exact fun _ h => .tail _ (.tail _ (.tail _ (.tail _ h)))); omega; (show (_ : Nat) * 48 ≤ _; omega); intro A' c')
      | (apply es_store hT; (iterate 6 exact rfl); (first | exact sel0 | exact sel1 | exact selS sel1 | exact selS (selS sel1) | exact selS (selS (selS sel1)) | exact selS (selS (selS (selS sel1))) | exact selS (selS (selS (selS (selS sel1)))) | exact selS (selS (selS (selS (selS (selS sel1)))))); (iterate 3 exact rfl); exact Nat.le_of_ble_eq_true rfl)
      | ((first | (apply es_load; (iterate 5 exact rfl)) | (apply es_loadL; (iterate 5 exact rfl); first | exact fun _ h => h)); first | exact ld_blk hT rfl rfl mem0 rfl rfl | exact ld_all hT rfl rfl mem0 rfl)
      | ((first | (apply es_load; (iterate 5 exact rfl)) | (apply es_loadL; (iterate 5 exact rfl); first | exact fun _ h => h)); first | exact ld_blk hT rfl rfl mem1 rfl rfl | exact ld_all hT rfl rfl mem1 rfl)
      | ((first | (apply es_load; (iterate 5 exact rfl)) | (apply es_loadL; (iterate 5 exact rfl); first | exact fun _ h => h)); first | exact ld_blk hT rfl rfl mem2 rfl rfl | exact ld_all hT rfl rfl mem2 rfl)
      | ((first | (apply es_load; (iterate 5 exact rfl)) | (apply es_loadL; (iterate 5 exact rfl); first | exact fun _ h => h)); first | exact ld_blk hT rfl rfl mem0 rfl rfl | exact ld_all hT rfl rfl mem0 rfl)
      | ((first | (apply es_load; (iterate 5 exact rfl)) | (apply es_loadL; (iterate 5 exact rfl); first | exact fun _ h => h)); first | exact ld_blk hT rfl rfl (List.mem_cons_of_mem _ mem0) rfl rfl | exact ld_all hT rfl rfl (List.mem_cons_of_mem _ mem0) rfl)
      | ((first | (apply es_load; (iterate 5 exact rfl)) | (apply es_loadL; (iterate 5 exact rfl); first | exact fun _ h => h)); first | exact ld_blk hT rfl rfl (List.mem_cons_of_mem _ (List.mem_cons_of_mem _ mem0)) rfl rfl | exact ld_all hT rfl rfl (List.mem_cons_of_mem _ (List.mem_cons_of_mem _ mem0)) rfl)
      | ((first | (apply es_load; (iterate 5 exact rfl)) | (apply es_loadL; (iterate 5 exact rfl); first | exact fun _ h => h)); first | exact ld_blk hT rfl rfl (List.mem_cons_of_mem _ (List.mem_cons_of_mem _ (List.mem_cons_of_mem _ mem0))) rfl rfl | exact ld_all hT rfl rfl (List.mem_cons_of_mem _ (List.mem_cons_of_mem _ (List.mem_cons_of_mem _ mem0))) rfl)
      | ((first | (apply es_load; (iterate 5 exact rfl)) | (apply es_loadL; (iterate 5 exact rfl); first | exact fun _ h => h)); first | exact ld_blk hT rfl rfl (List.mem_cons_of_mem _ (List.mem_cons_of_mem _ (List.mem_cons_of_mem _ (List.mem_cons_of_mem _ mem0)))) rfl rfl | exact ld_all hT rfl rfl (List.mem_cons_of_mem _ (List.mem_cons_of_mem _ (List.mem_cons_of_mem _ (List.mem_cons_of_mem _ mem0)))) rfl)
      | (apply es_box; (iterate 5 exact rfl); intro _) | (apply es_alloc hT; (iterate 5 exact rfl); intro _)
      | (apply aw_condT; (iterate 2 exact rfl)) | (apply aw_condF; (iterate 2 exact rfl))
      | (apply es_case; exact rfl; all_goals intro hb; all_goals (try simp only [hb]); all_goals (first | replace hb := of_decide_eq_true hb | replace hb := of_decide_eq_false hb | replace hb := bne_t hb | replace hb := bne_f hb | skip); all_goals (try (exfalso; omega)))
      | (apply aw_cond; exact rfl; all_goals intro hb; all_goals (try simp only [hb]); all_goals (first | replace hb := of_decide_eq_true hb | replace hb := of_decide_eq_false hb | replace hb := bne_t hb | replace hb := bne_f hb | skip); all_goals (try (exfalso; omega))))
    all_goals first
      | (exfalso; omega)
      | (apply ret2c; exact rfl; exact ld_all hT rfl rfl mem0 rfl; exact rfl
         refine ⟨refB p A' c' (l.take i ++ l.drop (i + 1)) F, ?_, rfl, A', c', rfl⟩
         rw [refB, hln, ← hcs]
         apply dt_cons; (first | exact sel0 | exact sel1 | exact selS sel1 | exact selS (selS sel1) | exact selS (selS (selS sel1)) | exact selS (selS (selS (selS sel1))) | exact selS (selS (selS (selS (selS sel1)))) | exact selS (selS (selS (selS (selS (selS sel1))))))
         apply dt_cons; (first | exact sel0 | exact sel1 | exact selS sel1 | exact selS (selS sel1) | exact selS (selS (selS sel1)) | exact selS (selS (selS (selS sel1))) | exact selS (selS (selS (selS (selS sel1)))) | exact selS (selS (selS (selS (selS (selS sel1))))))
         (repeat (first | exact dt_end | apply dt_skip)))

set_option maxHeartbeats 2000000 in
theorem ref14_Less (W : World) (F : List Chunk) (p : Nat) (A : Option Addr) (c : Nat) (l : List Order) (id left : Int) (hb : l.length ≤ 1000000) :
    FSpec Try.prog W 39 [.pointer (some ⟨p, 0, none⟩), .int .i64 id, .int .i64 left] (refB p A c l F) (fun v h' => v = .int .i64 (lessE id left l) ∧ ∃ A' c', h' = refB p A' c' (lessO id left l) F) := by
  refine FSpec.dropTo ?_
  refine spec_body Try.func39 rfl rfl Try.results39 Try.ntmps39 rfl rfl ?_
  refine aw_fact (h := refB p A c l F) mem1 (fun hl hnc hcc hsome hnone hone => ?_)
  have hr : Reads W (refB p A c l F) A l.length 6 (l.flatMap Order.enc) := Reads.own mem1 hl hone
  have hfind := (ref14_find W p A c l id hb).mono (h' := refB p A c l F) (memPairB mem0 mem1)
  rcases find_at (p := hasO id) l with ⟨hi, hf⟩ | ⟨i, x, hi, hx, hp, hf⟩
  · have hE : lessE id left l = 4 := by simp [lessE, getO, hf]
    have hL : lessO id left l = l := by simp [lessO, getO, hf]
    rw [hi] at hfind
    repeat' (first
      | apply aw_seq | apply aw_region | apply aw_ret | apply aw_skip | apply aw_exit | apply aw_block | apply es_nil
      | (apply es_pure hT; (iterate 4 exact rfl)) | (apply es_skip; (iterate 3 exact rfl)) | (apply es_skip0; (iterate 2 exact rfl))
      | (apply es_i64 hT; (iterate 4 exact rfl); (iterate 2 omega))
      | (apply aw_draw [] [] hmix; decide +kernel)
      | (apply es_callQ (hs := hfind); (iterate 7 exact rfl))
      | (apply es_load; (iterate 5 exact rfl); first | exact ld_blk hT rfl rfl mem0 rfl rfl | exact ld_all hT rfl rfl mem0 rfl)
      | (apply es_load; (iterate 5 exact rfl); first | exact ld_blk hT rfl rfl mem1 rfl rfl | exact ld_all hT rfl rfl mem1 rfl)
      | (apply es_load; (iterate 5 exact rfl); first | exact ld_blk hT rfl rfl mem2 rfl rfl | exact ld_all hT rfl rfl mem2 rfl)
      | (apply es_load; (iterate 5 exact rfl); first | exact ld_blk hT rfl rfl mem0 rfl rfl | exact ld_all hT rfl rfl mem0 rfl)
      | (apply es_load; (iterate 5 exact rfl); first | exact ld_blk hT rfl rfl (List.mem_cons_of_mem _ mem0) rfl rfl | exact ld_all hT rfl rfl (List.mem_cons_of_mem _ mem0) rfl)
      | (apply es_box; (iterate 5 exact rfl); intro _) | (apply es_alloc hT; (iterate 5 exact rfl); intro _)
      | (apply aw_condT; (iterate 2 exact rfl)) | (apply aw_condF; (iterate 2 exact rfl))
      | (apply es_case; exact rfl; all_goals intro hb; all_goals (try simp only [hb]); all_goals (first | replace hb := of_decide_eq_true hb | replace hb := of_decide_eq_false hb | replace hb := bne_t hb | replace hb := bne_f hb | skip); all_goals (try (exfalso; omega)))
      | (apply aw_cond; exact rfl; all_goals intro hb; all_goals (try simp only [hb]); all_goals (first | replace hb := of_decide_eq_true hb | replace hb := of_decide_eq_false hb | replace hb := bne_t hb | replace hb := bne_f hb | skip); all_goals (try (exfalso; omega))))
    all_goals first
      | (exfalso; omega)
      | (apply ret1; exact rfl; exact ⟨_, dt_end, by rw [hE], A, c, by rw [hL]⟩)
  · have hlt := (List.getElem?_eq_some_iff.1 hx).1
    have hg : getO id l = some x := hf
    rw [hi] at hfind
    obtain ⟨g, hA⟩ := hsome (by omega)
    have hA2 : A.isSome = true := by rw [hA]; rfl
    have hx2 : l[((i : Nat) : Int).toNat]? = some x := by simpa using hx
    have hlay : lay (l.flatMap Order.enc) (((i : Nat) : Int).toNat * 6 + 5) [.int .i64 left] = (l.set i { x with left := left }).flatMap Order.enc := by
      rw [Int.toNat_natCast, flat_lay Order.enc_len (x' := { x with left := left }) hx (Nat.le_of_ble_eq_true rfl) rfl]
    by_cases hbad : left < 1 ∨ left > x.left
    · have hE : lessE id left l = 1 := by simp [lessE, hg, hbad]
      have hL : lessO id left l = l := by simp [lessO, hg, hE]
      repeat' (first
        | apply aw_seq | apply aw_region | apply aw_ret | apply aw_skip | apply aw_exit | apply aw_block | apply es_nil
        | (apply es_pure hT; (iterate 4 exact rfl)) | (apply es_skip; (iterate 3 exact rfl)) | (apply es_skip0; (iterate 2 exact rfl))
        | (apply es_i64 hT; (iterate 4 exact rfl); (iterate 2 omega))
        | (apply aw_draw [] [] hmix; decide +kernel)
        | (apply es_callQ (hs := hfind); (iterate 7 exact rfl))
        | (apply es_idx hT; (iterate 8 exact rfl); (iterate 2 omega); exact hA2)
        | (apply es_load; (iterate 5 exact rfl); exact ld_fld hT rfl rfl hr Order.enc_len (adr_add _ _ _) hx2 (by decide) rfl)
        | (apply es_load; (iterate 5 exact rfl); first | exact ld_blk hT rfl rfl mem0 rfl rfl | exact ld_all hT rfl rfl mem0 rfl)
        | (apply es_load; (iterate 5 exact rfl); first | exact ld_blk hT rfl rfl mem1 rfl rfl | exact ld_all hT rfl rfl mem1 rfl)
        | (apply es_load; (iterate 5 exact rfl); first | exact ld_blk hT rfl rfl mem2 rfl rfl | exact ld_all hT rfl rfl mem2 rfl)
        | (apply es_load; (iterate 5 exact rfl); first | exact ld_blk hT rfl rfl mem0 rfl rfl | exact ld_all hT rfl rfl mem0 rfl)
        | (apply es_load; (iterate 5 exact rfl); first | exact ld_blk hT rfl rfl (List.mem_cons_of_mem _ mem0) rfl rfl | exact ld_all hT rfl rfl (List.mem_cons_of_mem _ mem0) rfl)
        | (apply es_box; (iterate 5 exact rfl); intro _) | (apply es_alloc hT; (iterate 5 exact rfl); intro _)
        | (apply aw_condT; (iterate 2 exact rfl)) | (apply aw_condF; (iterate 2 exact rfl))
        | (apply es_case; exact rfl; all_goals intro hb; all_goals (try simp only [hb]); all_goals (first | replace hb := of_decide_eq_true hb | replace hb := of_decide_eq_false hb | replace hb := bne_t hb | replace hb := bne_f hb | skip); all_goals (try (exfalso; omega)))
        | (apply aw_cond; exact rfl; all_goals intro hb; all_goals (try simp only [hb]); all_goals (first | replace hb := of_decide_eq_true hb | replace hb := of_decide_eq_false hb | replace hb := bne_t hb | replace hb := bne_f hb | skip); all_goals (try (exfalso; omega))))
      all_goals first
        | (exfalso; omega)
        | (apply ret1; exact rfl; exact ⟨_, dt_end, by rw [hE], A, c, by rw [hL]⟩)
    · have hE : lessE id left l = 0 := by simp [lessE, hg, hbad]
      have hL : lessO id left l = l.set i { x with left := left } := by simp [lessO, hg, hE, hi]
      have hlay2 : ∀ cs, ([] : List Value) ++ l.flatMap Order.enc = cs → lay cs (((i : Nat) : Int).toNat * 6 + 5) [.int .i64 left] = (lessO id left l).flatMap Order.enc := fun cs h => by
        rw [← h, List.nil_append, hL, hlay]
      repeat' (first
        | ((fail_if_success (have q := hf2)); refine aw_own (n := 0 + l.length) mem1 (fun hf2 => ?_))
        | apply aw_seq | apply aw_region | apply aw_ret | apply aw_skip | apply aw_exit | apply aw_block | apply es_nil
        | (apply es_pure hT; (iterate 4 exact rfl)) | (apply es_skip; (iterate 3 exact rfl)) | (apply es_skip0; (iterate 2 exact rfl))
        | (apply es_i64 hT; (iterate 4 exact rfl); (iterate 2 omega))
        | (apply aw_draw [] [] hmix; decide +kernel)
        | (apply es_callQ (hs := hfind); (iterate 7 exact rfl))
        | (apply es_idx hT; (iterate 8 exact rfl); (iterate 2 omega); first | exact hA2 | exact hf2.some_ (by omega))
        | (apply es_load; (iterate 5 exact rfl); exact ld_fld hT rfl rfl hr Order.enc_len (adr_add _ _ _) hx2 (by decide) rfl)
        | (apply es_buildSlice hT; (iterate 12 exact rfl); intro g)
        | (apply es_append hT; (iterate 10 exact rfl); (first | exact sel0 | exact sel1 | exact selS sel1 | exact selS (selS sel1) | exact selS (selS (selS sel1)) | exact selS (selS (selS (selS sel1))) | exact selS (selS (selS (selS (selS sel1)))) | exact selS (selS (selS (selS (selS (selS sel1)))))); (refine hr.mono ?_; (first | exact fun _ h => h | exact fun _ h => .tail _ h | exact fun _ h => .tail _ (.tail _ h) | exact fun _ h => .tail _ (.tail _ (.tail _ h)) | exact fun _ h => .tail _ (.tail _ (.tail _ (.tail _ h))))); omega; (show (_ : Nat) * 48 ≤ _; omega); intro A' c')
        | (apply es_storeRow hT; (iterate 6 exact rfl); exact sel1; exact adr_add _ _ _; exact rfl; exact rfl; (show (((i : Nat) : Int).toNat * 6 + 5) + 1 ≤ (0 + l.length) * 6; omega); omega)
        | (apply es_store hT; (iterate 6 exact rfl); (first | exact sel0 | exact sel1 | exact selS sel1 | exact selS (selS sel1) | exact selS (selS (selS sel1)) | exact selS (selS (selS (selS sel1))) | exact selS (selS (selS (selS (selS sel1)))) | exact selS (selS (selS (selS (selS (selS sel1)))))); (iterate 3 exact rfl); exact Nat.le_of_ble_eq_true rfl)
        | (apply es_load; (iterate 5 exact rfl); first | exact ld_blk hT rfl rfl mem0 rfl rfl | exact ld_all hT rfl rfl mem0 rfl)
        | (apply es_load; (iterate 5 exact rfl); first | exact ld_blk hT rfl rfl mem1 rfl rfl | exact ld_all hT rfl rfl mem1 rfl)
        | (apply es_load; (iterate 5 exact rfl); first | exact ld_blk hT rfl rfl mem2 rfl rfl | exact ld_all hT rfl rfl mem2 rfl)
        | (apply es_load; (iterate 5 exact rfl); first | exact ld_blk hT rfl rfl mem0 rfl rfl | exact ld_all hT rfl rfl mem0 rfl)
        | (apply es_load; (iterate 5 exact rfl); first | exact ld_blk hT rfl rfl (List.mem_cons_of_mem _ mem0) rfl rfl | exact ld_all hT rfl rfl (List.mem_cons_of_mem _ mem0) rfl)
        | (apply es_load; (iterate 5 exact rfl); first | exact ld_blk hT rfl rfl (List.mem_cons_of_mem _ (List.mem_cons_of_mem _ mem0)) rfl rfl | exact ld_all hT rfl rfl (List.mem_cons_of_mem _ (List.mem_cons_of_mem _ mem0)) rfl)
        | (apply es_box; (iterate 5 exact rfl); intro _) | (apply es_alloc hT; (iterate 5 exact rfl); intro _)
        | (apply aw_condT; (iterate 2 exact rfl)) | (apply aw_condF; (iterate 2 exact rfl))
        | (apply es_case; exact rfl; all_goals intro hb; all_goals (try simp only [hb]); all_goals (first | replace hb := of_decide_eq_true hb | replace hb := of_decide_eq_false hb | replace hb := bne_t hb | replace hb := bne_f hb | skip); all_goals (try (exfalso; omega)))
        | (apply aw_cond; exact rfl; all_goals intro hb; all_goals (try simp only [hb]); all_goals (first | replace hb := of_decide_eq_true hb | replace hb := of_decide_eq_false hb | replace hb := bne_t hb | replace hb := bne_f hb | skip); all_goals (try (exfalso; omega))))
      all_goals first
        | (exfalso; omega)
        | (apply ret1; exact rfl
           refine ⟨refB p A' c' (lessO id left l) F, ?_, by rw [hE], A', c', rfl⟩
           rw [refB, ← hlay2 _ rfl, show (lessO id left l).length = 0 + l.length by rw [hL, List.length_set]; omega]
           apply dt_cons; (first | exact sel0 | exact sel1 | exact selS sel1 | exact selS (selS sel1) | exact selS (selS (selS sel1)) | exact selS (selS (selS (selS sel1))) | exact selS (selS (selS (selS (selS sel1)))) | exact selS (selS (selS (selS (selS (selS sel1))))))
           apply dt_cons; (first | exact sel0 | exact sel1 | exact selS sel1 | exact selS (selS sel1) | exact selS (selS (selS sel1)) | exact selS (selS (selS (selS sel1))) | exact selS (selS (selS (selS (selS sel1)))) | exact selS (selS (selS (selS (selS (selS sel1))))))
           (repeat (first | exact dt_end | apply dt_skip)))
end Go.Proofs.Ytiefkpfamkkapaa
