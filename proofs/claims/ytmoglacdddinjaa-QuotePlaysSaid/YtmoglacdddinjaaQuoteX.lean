/- What the statement QuoteWays answers. Conditions stand in each statement. -/
import Derived.Test.YtmoglacdddinjaaQuoteW
set_option linter.unusedSimpArgs false
set_option linter.unusedVariables false
namespace Go.Proofs.Ytmoglacdddinjaa
open Go Go.Sl
attribute [local irreducible] AW ES EP Ld RetQ
set_option maxRecDepth 100000

def wq : Quote := ⟨3, 2, 1, 9, 9, true⟩
def wqd : Quote := ⟨3, 2, 1, 9, 9, false⟩
def wq4 : Quote := ⟨4, 2, 1, 9, 9, false⟩
def wq5 : Quote := ⟨4, 2, 1, 0, 9, true⟩
set_option maxHeartbeats 1000000 in
theorem quo_Way0 (W : World) : FSpec Try.prog W 7 [.int .i64 0] [] (fun v _ => v = .bool true) := by
  refine spec_body Try.func7 rfl rfl Try.results7 Try.ntmps7 rfl rfl ?_
  have hput := fun p => quo_PutX W p [] wq [wq] (by simp) (by simp [upQ]) (v0 := .tuple #[.int .i64 0, .int .i64 0]) rfl rfl
  have hk := quo_known W
  have hpull1 := fun p => quo_PullB W p [wq] 3 2 5 [wq] (by simp) (by simp [upQ]) rfl rfl
  have hpull2 := fun p => quo_PullB W p [wq] 4 1 4 [wq] (by simp) (by simp [upQ]) rfl rfl
  have hpull3 := fun p => quo_PullB W p [wq] 3 1 0 [wqd] (by simp) (by simp [upQ]) rfl rfl
  have hpull4 := fun p => quo_PullB W p [wqd] 3 1 12 [wqd] (by simp) (by simp [upQ]) rfl rfl
  repeat' (first
    | apply aw_seq | apply aw_region | apply aw_ret | apply aw_skip | apply aw_exit | apply aw_block | apply es_nil
    | (apply es_pure hT; (iterate 4 exact rfl)) | (apply es_skip; (iterate 3 exact rfl)) | (apply es_skip0; (iterate 2 exact rfl))
    | (apply es_i64 hT; (iterate 4 exact rfl); (iterate 2 omega))
    | (apply aw_draw [] [] hmix; decide +kernel)
    | (apply es_call (hs := (quo_New W _)); (iterate 7 exact rfl); rintro _ _ ⟨p, A, c, rfl, rfl⟩)
    | (apply es_build hT; (iterate 4 exact rfl))
    | (apply es_call (hs := (hput _ _ _ _ _)); (iterate 7 exact rfl); rintro _ _ ⟨rfl, A1, c1, rfl⟩)
    | (apply es_store hT; (iterate 6 exact rfl); (first | exact sel0 | exact sel1 | exact selS sel1 | exact selS (selS sel1) | exact selS (selS (selS sel1)) | exact selS (selS (selS (selS sel1))) | exact selS (selS (selS (selS (selS sel1)))) | exact selS (selS (selS (selS (selS (selS sel1)))))); (iterate 3 exact rfl); exact Nat.le_of_ble_eq_true rfl)
    | (apply es_call (hs := (hpull1 _ _ _ _)); (iterate 7 exact rfl); rintro _ _ ⟨rfl, rfl⟩)
    | (apply es_call (hs := (hpull2 _ _ _ _)); (iterate 7 exact rfl); rintro _ _ ⟨rfl, rfl⟩)
    | (apply es_call (hs := (hpull3 _ _ _ _)); (iterate 7 exact rfl); rintro _ _ ⟨rfl, rfl⟩)
    | (apply es_call (hs := (hpull4 _ _ _ _)); (iterate 7 exact rfl); rintro _ _ ⟨rfl, rfl⟩)
    | (apply es_callQ (hs := (hk.mono (by simp))); (iterate 7 exact rfl))
    | (apply es_load; (iterate 5 exact rfl); first | exact ld_blk hT rfl rfl mem0 rfl rfl | exact ld_all hT rfl rfl mem0 rfl)
    | (apply es_load; (iterate 5 exact rfl); first | exact ld_blk hT rfl rfl mem1 rfl rfl | exact ld_all hT rfl rfl mem1 rfl)
    | (apply es_load; (iterate 5 exact rfl); first | exact ld_blk hT rfl rfl mem2 rfl rfl | exact ld_all hT rfl rfl mem2 rfl)
    | (apply es_load; (iterate 5 exact rfl); first | exact ld_blk hT rfl rfl mem2 rfl rfl | exact ld_all hT rfl rfl mem2 rfl)
    | (apply es_load; (iterate 5 exact rfl); first | exact ld_blk hT rfl rfl (List.mem_cons_of_mem _ mem2) rfl rfl | exact ld_all hT rfl rfl (List.mem_cons_of_mem _ mem2) rfl)
    | (apply es_load; (iterate 5 exact rfl); first | exact ld_blk hT rfl rfl (List.mem_cons_of_mem _ (List.mem_cons_of_mem _ mem2)) rfl rfl | exact ld_all hT rfl rfl (List.mem_cons_of_mem _ (List.mem_cons_of_mem _ mem2)) rfl)
    | (apply es_load; (iterate 5 exact rfl); first | exact ld_blk hT rfl rfl (List.mem_cons_of_mem _ (List.mem_cons_of_mem _ (List.mem_cons_of_mem _ mem2))) rfl rfl | exact ld_all hT rfl rfl (List.mem_cons_of_mem _ (List.mem_cons_of_mem _ (List.mem_cons_of_mem _ mem2))) rfl)
    | (apply es_load; (iterate 5 exact rfl); first | exact ld_blk hT rfl rfl mem3 rfl rfl | exact ld_all hT rfl rfl mem3 rfl)
    | (apply es_load; (iterate 5 exact rfl); first | exact ld_blk hT rfl rfl (List.mem_cons_of_mem _ mem3) rfl rfl | exact ld_all hT rfl rfl (List.mem_cons_of_mem _ mem3) rfl)
    | (apply es_load; (iterate 5 exact rfl); first | exact ld_blk hT rfl rfl (List.mem_cons_of_mem _ (List.mem_cons_of_mem _ mem3)) rfl rfl | exact ld_all hT rfl rfl (List.mem_cons_of_mem _ (List.mem_cons_of_mem _ mem3)) rfl)
    | (apply es_load; (iterate 5 exact rfl); first | exact ld_blk hT rfl rfl (List.mem_cons_of_mem _ (List.mem_cons_of_mem _ (List.mem_cons_of_mem _ mem3))) rfl rfl | exact ld_all hT rfl rfl (List.mem_cons_of_mem _ (List.mem_cons_of_mem _ (List.mem_cons_of_mem _ mem3))) rfl)
    | (apply es_box; (iterate 5 exact rfl); intro _) | (apply es_alloc hT; (iterate 5 exact rfl); intro _)
    | (apply aw_condT; (iterate 2 exact rfl)) | (apply aw_condF; (iterate 2 exact rfl))
    | (apply es_case; exact rfl; all_goals intro hb; all_goals (try simp only [hb]); all_goals (first | replace hb := of_decide_eq_true hb | replace hb := of_decide_eq_false hb | replace hb := bne_t hb | replace hb := bne_f hb | skip); all_goals (try (exfalso; omega)))
    | (apply aw_cond; exact rfl; all_goals intro hb; all_goals (try simp only [hb]); all_goals (first | replace hb := of_decide_eq_true hb | replace hb := of_decide_eq_false hb | replace hb := bne_t hb | replace hb := bne_f hb | skip); all_goals (try (exfalso; omega))))
  apply ret1; exact rfl; exact rfl

set_option maxHeartbeats 1000000 in
theorem quo_Way1 (W : World) : FSpec Try.prog W 7 [.int .i64 1] [] (fun v _ => v = .bool true) := by
  refine spec_body Try.func7 rfl rfl Try.results7 Try.ntmps7 rfl rfl ?_
  have hput := fun p => quo_PutX W p [] wq [wq] (by simp) (by simp [upQ]) (v0 := .tuple #[.int .i64 0, .int .i64 0]) rfl rfl
  have hk := quo_known W
  have hkill1 := fun p => quo_KillB W p [wq] 3 true [wqd] (by simp) (by simp [upQ]) rfl rfl
  have hkill2 := fun p => quo_KillB W p [wqd] 3 false [wqd] (by simp) (by simp [upQ]) rfl rfl
  have hkill3 := fun p => quo_KillB W p [wqd] 9 false [wqd] (by simp) (by simp [upQ]) rfl rfl
  have hlive := fun p => quo_LiveB W p [wqd] 2 1 [] (by simp) rfl
  repeat' (first
    | apply aw_seq | apply aw_region | apply aw_ret | apply aw_skip | apply aw_exit | apply aw_block | apply es_nil
    | (apply es_pure hT; (iterate 4 exact rfl)) | (apply es_skip; (iterate 3 exact rfl)) | (apply es_skip0; (iterate 2 exact rfl))
    | (apply es_i64 hT; (iterate 4 exact rfl); (iterate 2 omega))
    | (apply aw_draw [] [] hmix; decide +kernel)
    | (apply es_call (hs := (quo_New W _)); (iterate 7 exact rfl); rintro _ _ ⟨p, A, c, rfl, rfl⟩)
    | (apply es_build hT; (iterate 4 exact rfl))
    | (apply es_call (hs := (hput _ _ _ _ _)); (iterate 7 exact rfl); rintro _ _ ⟨rfl, A1, c1, rfl⟩)
    | (apply es_store hT; (iterate 6 exact rfl); (first | exact sel0 | exact sel1 | exact selS sel1 | exact selS (selS sel1) | exact selS (selS (selS sel1)) | exact selS (selS (selS (selS sel1))) | exact selS (selS (selS (selS (selS sel1)))) | exact selS (selS (selS (selS (selS (selS sel1)))))); (iterate 3 exact rfl); exact Nat.le_of_ble_eq_true rfl)
    | (apply es_call (hs := (hkill1 _ _ _ _)); (iterate 7 exact rfl); rintro _ _ ⟨rfl, rfl⟩)
    | (apply es_call (hs := (hkill2 _ _ _ _)); (iterate 7 exact rfl); rintro _ _ ⟨rfl, rfl⟩)
    | (apply es_call (hs := (hkill3 _ _ _ _)); (iterate 7 exact rfl); rintro _ _ ⟨rfl, rfl⟩)
    | (apply es_call (hs := (hlive _ _ _ _)); (iterate 7 exact rfl); rintro _ _ ⟨A5, c5, rfl, rfl, hf5⟩)
    | (apply es_callQ (hs := (hk.mono (by simp))); (iterate 7 exact rfl))
    | (apply es_load; (iterate 5 exact rfl); first | exact ld_blk hT rfl rfl mem0 rfl rfl | exact ld_all hT rfl rfl mem0 rfl)
    | (apply es_load; (iterate 5 exact rfl); first | exact ld_blk hT rfl rfl mem1 rfl rfl | exact ld_all hT rfl rfl mem1 rfl)
    | (apply es_load; (iterate 5 exact rfl); first | exact ld_blk hT rfl rfl mem2 rfl rfl | exact ld_all hT rfl rfl mem2 rfl)
    | (apply es_load; (iterate 5 exact rfl); first | exact ld_blk hT rfl rfl mem2 rfl rfl | exact ld_all hT rfl rfl mem2 rfl)
    | (apply es_load; (iterate 5 exact rfl); first | exact ld_blk hT rfl rfl (List.mem_cons_of_mem _ mem2) rfl rfl | exact ld_all hT rfl rfl (List.mem_cons_of_mem _ mem2) rfl)
    | (apply es_load; (iterate 5 exact rfl); first | exact ld_blk hT rfl rfl (List.mem_cons_of_mem _ (List.mem_cons_of_mem _ mem2)) rfl rfl | exact ld_all hT rfl rfl (List.mem_cons_of_mem _ (List.mem_cons_of_mem _ mem2)) rfl)
    | (apply es_load; (iterate 5 exact rfl); first | exact ld_blk hT rfl rfl (List.mem_cons_of_mem _ (List.mem_cons_of_mem _ (List.mem_cons_of_mem _ mem2))) rfl rfl | exact ld_all hT rfl rfl (List.mem_cons_of_mem _ (List.mem_cons_of_mem _ (List.mem_cons_of_mem _ mem2))) rfl)
    | (apply es_load; (iterate 5 exact rfl); first | exact ld_blk hT rfl rfl mem3 rfl rfl | exact ld_all hT rfl rfl mem3 rfl)
    | (apply es_load; (iterate 5 exact rfl); first | exact ld_blk hT rfl rfl (List.mem_cons_of_mem _ mem3) rfl rfl | exact ld_all hT rfl rfl (List.mem_cons_of_mem _ mem3) rfl)
    | (apply es_load; (iterate 5 exact rfl); first | exact ld_blk hT rfl rfl (List.mem_cons_of_mem _ (List.mem_cons_of_mem _ mem3)) rfl rfl | exact ld_all hT rfl rfl (List.mem_cons_of_mem _ (List.mem_cons_of_mem _ mem3)) rfl)
    | (apply es_load; (iterate 5 exact rfl); first | exact ld_blk hT rfl rfl (List.mem_cons_of_mem _ (List.mem_cons_of_mem _ (List.mem_cons_of_mem _ mem3))) rfl rfl | exact ld_all hT rfl rfl (List.mem_cons_of_mem _ (List.mem_cons_of_mem _ (List.mem_cons_of_mem _ mem3))) rfl)
    | (apply es_box; (iterate 5 exact rfl); intro _) | (apply es_alloc hT; (iterate 5 exact rfl); intro _)
    | (apply aw_condT; (iterate 2 exact rfl)) | (apply aw_condF; (iterate 2 exact rfl))
    | (apply es_case; exact rfl; all_goals intro hb; all_goals (try simp only [hb]); all_goals (first | replace hb := of_decide_eq_true hb | replace hb := of_decide_eq_false hb | replace hb := bne_t hb | replace hb := bne_f hb | skip); all_goals (try (exfalso; omega)))
    | (apply aw_cond; exact rfl; all_goals intro hb; all_goals (try simp only [hb]); all_goals (first | replace hb := of_decide_eq_true hb | replace hb := of_decide_eq_false hb | replace hb := bne_t hb | replace hb := bne_f hb | skip); all_goals (try (exfalso; omega))))
  apply ret1; exact rfl; exact rfl

set_option maxHeartbeats 1000000 in
theorem quo_Way2 (W : World) : FSpec Try.prog W 7 [.int .i64 2] [] (fun v _ => v = .bool true) := by
  refine spec_body Try.func7 rfl rfl Try.results7 Try.ntmps7 rfl rfl ?_
  have hput := fun p => quo_PutX W p [] wq [wq] (by simp) (by simp [upQ]) (v0 := .tuple #[.int .i64 0, .int .i64 0]) rfl rfl
  have hk := quo_known W
  have hclear1 := fun p => quo_ClearB W p [wq] 2 [wq] [] (by simp) rfl rfl
  have hclear2 := fun p => quo_ClearB W p [] 2 [] [] (by simp) rfl rfl
  have hclear3 := fun p X F A c => (hclear2 p (X :: F) A c).perm (selS (selS sel0)).symm
  have hget : ∀ p A c F, QSpec Try.prog W 34 [.pointer (some ⟨p, 0, none⟩), .int .i64 3] (quoTab p A c [] F) (.tuple #[.agg zeroQ.enc.toArray, .bool false]) := fun p A c F =>
    (quo_Get W p A c [] 3 (by simp) (by simp [upQ])).mono (by intro c hc; simp only [quoTab, List.mem_cons, List.not_mem_nil, or_false] at hc ⊢; rcases hc with rfl | rfl <;> simp)
  repeat' (first
    | apply aw_seq | apply aw_region | apply aw_ret | apply aw_skip | apply aw_exit | apply aw_block | apply es_nil
    | (apply es_pure hT; (iterate 4 exact rfl)) | (apply es_skip; (iterate 3 exact rfl)) | (apply es_skip0; (iterate 2 exact rfl))
    | (apply es_i64 hT; (iterate 4 exact rfl); (iterate 2 omega))
    | (apply aw_draw [] [] hmix; decide +kernel)
    | (apply es_call (hs := (quo_New W _)); (iterate 7 exact rfl); rintro _ _ ⟨p, A, c, rfl, rfl⟩)
    | (apply es_build hT; (iterate 4 exact rfl))
    | (apply es_call (hs := (hput _ _ _ _ _)); (iterate 7 exact rfl); rintro _ _ ⟨rfl, A1, c1, rfl⟩)
    | (apply es_store hT; (iterate 6 exact rfl); (first | exact sel0 | exact sel1 | exact selS sel1 | exact selS (selS sel1) | exact selS (selS (selS sel1)) | exact selS (selS (selS (selS sel1))) | exact selS (selS (selS (selS (selS sel1)))) | exact selS (selS (selS (selS (selS (selS sel1)))))); (iterate 3 exact rfl); exact Nat.le_of_ble_eq_true rfl)
    | (apply es_call (hs := (hclear1 _ _ _ _)); (iterate 7 exact rfl); rintro _ _ ⟨A6, c6, rfl, rfl, hf6⟩)
    | (apply es_call (hs := (hclear3 _ _ _ _ _)); (iterate 7 exact rfl); rintro _ _ ⟨A7, c7, rfl, rfl, hf7⟩)
    | (apply es_callQ (hs := (hget _ _ _ _)); (iterate 7 exact rfl))
    | (apply es_idx hT; (iterate 8 exact rfl); omega; (show (0 : Int) < 1; omega); exact hf6.some_ (by simp))
    | (apply es_load; (iterate 5 exact rfl); exact ld_fld hT rfl rfl (hf6.reads mem3) idC_len (f := 0) rfl (rfl : ([wq] : List Quote)[0]? = some wq) (by decide) rfl)
    | (apply es_callQ (hs := (hk.mono (by simp))); (iterate 7 exact rfl))
    | (apply es_load; (iterate 5 exact rfl); first | exact ld_blk hT rfl rfl mem0 rfl rfl | exact ld_all hT rfl rfl mem0 rfl)
    | (apply es_load; (iterate 5 exact rfl); first | exact ld_blk hT rfl rfl mem1 rfl rfl | exact ld_all hT rfl rfl mem1 rfl)
    | (apply es_load; (iterate 5 exact rfl); first | exact ld_blk hT rfl rfl mem2 rfl rfl | exact ld_all hT rfl rfl mem2 rfl)
    | (apply es_load; (iterate 5 exact rfl); first | exact ld_blk hT rfl rfl mem2 rfl rfl | exact ld_all hT rfl rfl mem2 rfl)
    | (apply es_load; (iterate 5 exact rfl); first | exact ld_blk hT rfl rfl (List.mem_cons_of_mem _ mem2) rfl rfl | exact ld_all hT rfl rfl (List.mem_cons_of_mem _ mem2) rfl)
    | (apply es_load; (iterate 5 exact rfl); first | exact ld_blk hT rfl rfl (List.mem_cons_of_mem _ (List.mem_cons_of_mem _ mem2)) rfl rfl | exact ld_all hT rfl rfl (List.mem_cons_of_mem _ (List.mem_cons_of_mem _ mem2)) rfl)
    | (apply es_load; (iterate 5 exact rfl); first | exact ld_blk hT rfl rfl (List.mem_cons_of_mem _ (List.mem_cons_of_mem _ (List.mem_cons_of_mem _ mem2))) rfl rfl | exact ld_all hT rfl rfl (List.mem_cons_of_mem _ (List.mem_cons_of_mem _ (List.mem_cons_of_mem _ mem2))) rfl)
    | (apply es_load; (iterate 5 exact rfl); first | exact ld_blk hT rfl rfl mem3 rfl rfl | exact ld_all hT rfl rfl mem3 rfl)
    | (apply es_load; (iterate 5 exact rfl); first | exact ld_blk hT rfl rfl (List.mem_cons_of_mem _ mem3) rfl rfl | exact ld_all hT rfl rfl (List.mem_cons_of_mem _ mem3) rfl)
    | (apply es_load; (iterate 5 exact rfl); first | exact ld_blk hT rfl rfl (List.mem_cons_of_mem _ (List.mem_cons_of_mem _ mem3)) rfl rfl | exact ld_all hT rfl rfl (List.mem_cons_of_mem _ (List.mem_cons_of_mem _ mem3)) rfl)
    | (apply es_load; (iterate 5 exact rfl); first | exact ld_blk hT rfl rfl (List.mem_cons_of_mem _ (List.mem_cons_of_mem _ (List.mem_cons_of_mem _ mem3))) rfl rfl | exact ld_all hT rfl rfl (List.mem_cons_of_mem _ (List.mem_cons_of_mem _ (List.mem_cons_of_mem _ mem3))) rfl)
    | (apply es_box; (iterate 5 exact rfl); intro _) | (apply es_alloc hT; (iterate 5 exact rfl); intro _)
    | (apply aw_condT; (iterate 2 exact rfl)) | (apply aw_condF; (iterate 2 exact rfl))
    | (apply es_case; exact rfl; all_goals intro hb; all_goals (try simp only [hb]); all_goals (first | replace hb := of_decide_eq_true hb | replace hb := of_decide_eq_false hb | replace hb := bne_t hb | replace hb := bne_f hb | skip); all_goals (try (exfalso; omega)))
    | (apply aw_cond; exact rfl; all_goals intro hb; all_goals (try simp only [hb]); all_goals (first | replace hb := of_decide_eq_true hb | replace hb := of_decide_eq_false hb | replace hb := bne_t hb | replace hb := bne_f hb | skip); all_goals (try (exfalso; omega))))
  apply ret1; exact rfl; exact rfl

set_option maxHeartbeats 1000000 in
theorem quo_Way3 (W : World) : FSpec Try.prog W 7 [.int .i64 3] [] (fun v _ => v = .bool true) := by
  refine spec_body Try.func7 rfl rfl Try.results7 Try.ntmps7 rfl rfl ?_
  have hput := fun p => quo_PutX W p [] wq [wq] (by simp) (by simp [upQ]) (v0 := .tuple #[.int .i64 0, .int .i64 0]) rfl rfl
  have hk := quo_known W
  have hput2 := fun p => quo_PutB W p [wq] wq [wq] (by simp) (by simp [upQ]) (v0 := .tuple #[.int .i64 0, .int .i64 1]) rfl rfl
  have hput3 := fun p => quo_PutX W p [wq] wq4 [wq] (by simp) (by simp [upQ]) (v0 := .tuple #[.int .i64 0, .int .i64 1]) rfl rfl
  have hput4 := fun p => quo_PutX W p [wq] wq5 [wq] (by simp) (by simp [upQ]) (v0 := .tuple #[.int .i64 0, .int .i64 1]) rfl rfl
  repeat' (first
    | apply aw_seq | apply aw_region | apply aw_ret | apply aw_skip | apply aw_exit | apply aw_block | apply es_nil
    | (apply es_pure hT; (iterate 4 exact rfl)) | (apply es_skip; (iterate 3 exact rfl)) | (apply es_skip0; (iterate 2 exact rfl))
    | (apply es_i64 hT; (iterate 4 exact rfl); (iterate 2 omega))
    | (apply aw_draw [] [] hmix; decide +kernel)
    | (apply es_call (hs := (quo_New W _)); (iterate 7 exact rfl); rintro _ _ ⟨p, A, c, rfl, rfl⟩)
    | (apply es_build hT; (iterate 4 exact rfl))
    | (apply es_call (hs := (hput _ _ _ _ _)); (iterate 7 exact rfl); rintro _ _ ⟨rfl, A1, c1, rfl⟩)
    | (apply es_store hT; (iterate 6 exact rfl); (first | exact sel0 | exact sel1 | exact selS sel1 | exact selS (selS sel1) | exact selS (selS (selS sel1)) | exact selS (selS (selS (selS sel1))) | exact selS (selS (selS (selS (selS sel1)))) | exact selS (selS (selS (selS (selS (selS sel1)))))); (iterate 3 exact rfl); exact Nat.le_of_ble_eq_true rfl)
    | (apply es_call (hs := (hput2 _ _ _ _)); (iterate 7 exact rfl); rintro _ _ ⟨rfl, A2, c2, rfl⟩)
    | (apply es_call (hs := (hput3 _ _ _ _ _)); (iterate 7 exact rfl); rintro _ _ ⟨rfl, A3, c3, rfl⟩)
    | (apply es_call (hs := (hput4 _ _ _ _ _)); (iterate 7 exact rfl); rintro _ _ ⟨rfl, A4, c4, rfl⟩)
    | (apply es_callQ (hs := (hk.mono (by simp))); (iterate 7 exact rfl))
    | (apply es_load; (iterate 5 exact rfl); first | exact ld_blk hT rfl rfl mem0 rfl rfl | exact ld_all hT rfl rfl mem0 rfl)
    | (apply es_load; (iterate 5 exact rfl); first | exact ld_blk hT rfl rfl mem1 rfl rfl | exact ld_all hT rfl rfl mem1 rfl)
    | (apply es_load; (iterate 5 exact rfl); first | exact ld_blk hT rfl rfl mem2 rfl rfl | exact ld_all hT rfl rfl mem2 rfl)
    | (apply es_load; (iterate 5 exact rfl); first | exact ld_blk hT rfl rfl mem2 rfl rfl | exact ld_all hT rfl rfl mem2 rfl)
    | (apply es_load; (iterate 5 exact rfl); first | exact ld_blk hT rfl rfl (List.mem_cons_of_mem _ mem2) rfl rfl | exact ld_all hT rfl rfl (List.mem_cons_of_mem _ mem2) rfl)
    | (apply es_load; (iterate 5 exact rfl); first | exact ld_blk hT rfl rfl (List.mem_cons_of_mem _ (List.mem_cons_of_mem _ mem2)) rfl rfl | exact ld_all hT rfl rfl (List.mem_cons_of_mem _ (List.mem_cons_of_mem _ mem2)) rfl)
    | (apply es_load; (iterate 5 exact rfl); first | exact ld_blk hT rfl rfl (List.mem_cons_of_mem _ (List.mem_cons_of_mem _ (List.mem_cons_of_mem _ mem2))) rfl rfl | exact ld_all hT rfl rfl (List.mem_cons_of_mem _ (List.mem_cons_of_mem _ (List.mem_cons_of_mem _ mem2))) rfl)
    | (apply es_load; (iterate 5 exact rfl); first | exact ld_blk hT rfl rfl mem3 rfl rfl | exact ld_all hT rfl rfl mem3 rfl)
    | (apply es_load; (iterate 5 exact rfl); first | exact ld_blk hT rfl rfl (List.mem_cons_of_mem _ mem3) rfl rfl | exact ld_all hT rfl rfl (List.mem_cons_of_mem _ mem3) rfl)
    | (apply es_load; (iterate 5 exact rfl); first | exact ld_blk hT rfl rfl (List.mem_cons_of_mem _ (List.mem_cons_of_mem _ mem3)) rfl rfl | exact ld_all hT rfl rfl (List.mem_cons_of_mem _ (List.mem_cons_of_mem _ mem3)) rfl)
    | (apply es_load; (iterate 5 exact rfl); first | exact ld_blk hT rfl rfl (List.mem_cons_of_mem _ (List.mem_cons_of_mem _ (List.mem_cons_of_mem _ mem3))) rfl rfl | exact ld_all hT rfl rfl (List.mem_cons_of_mem _ (List.mem_cons_of_mem _ (List.mem_cons_of_mem _ mem3))) rfl)
    | (apply es_box; (iterate 5 exact rfl); intro _) | (apply es_alloc hT; (iterate 5 exact rfl); intro _)
    | (apply aw_condT; (iterate 2 exact rfl)) | (apply aw_condF; (iterate 2 exact rfl))
    | (apply es_case; exact rfl; all_goals intro hb; all_goals (try simp only [hb]); all_goals (first | replace hb := of_decide_eq_true hb | replace hb := of_decide_eq_false hb | replace hb := bne_t hb | replace hb := bne_f hb | skip); all_goals (try (exfalso; omega)))
    | (apply aw_cond; exact rfl; all_goals intro hb; all_goals (try simp only [hb]); all_goals (first | replace hb := of_decide_eq_true hb | replace hb := of_decide_eq_false hb | replace hb := bne_t hb | replace hb := bne_f hb | skip); all_goals (try (exfalso; omega))))
  apply ret1; exact rfl; exact rfl

set_option maxHeartbeats 1000000 in
theorem quo_Ways (W : World) (way : Int) : FSpec Try.prog W 7 [.int .i64 way] [] (fun v _ => v = .bool true) := by
  by_cases h0 : way = 0
  · subst h0; exact quo_Way0 W
  by_cases h1 : way = 1
  · subst h1; exact quo_Way1 W
  by_cases h2 : way = 2
  · subst h2; exact quo_Way2 W
  by_cases h3 : way = 3
  · subst h3; exact quo_Way3 W
  refine spec_body Try.func7 rfl rfl Try.results7 Try.ntmps7 rfl rfl ?_
  have e0 : (way == 0) = false := by simpa using h0
  have e1 : (way == 1) = false := by simpa using h1
  have e2 : (way == 2) = false := by simpa using h2
  have e3 : (way == 3) = false := by simpa using h3
  have hput := fun p => quo_PutX W p [] wq [wq] (by simp) (by simp [upQ]) (v0 := .tuple #[.int .i64 0, .int .i64 0]) rfl rfl
  have hk := quo_known W
  repeat' (first
    | apply aw_seq | apply aw_region | apply aw_ret | apply aw_skip | apply aw_exit | apply aw_block | apply es_nil
    | (apply es_pure hT; (iterate 4 exact rfl)) | (apply es_skip; (iterate 3 exact rfl)) | (apply es_skip0; (iterate 2 exact rfl))
    | (apply es_i64 hT; (iterate 4 exact rfl); (iterate 2 omega))
    | (apply aw_draw [] [] hmix; decide +kernel)
    | (apply es_call (hs := (quo_New W _)); (iterate 7 exact rfl); rintro _ _ ⟨p, A, c, rfl, rfl⟩)
    | (apply es_build hT; (iterate 4 exact rfl))
    | (apply es_call (hs := (hput _ _ _ _ _)); (iterate 7 exact rfl); rintro _ _ ⟨rfl, A1, c1, rfl⟩)
    | (apply es_store hT; (iterate 6 exact rfl); (first | exact sel0 | exact sel1 | exact selS sel1 | exact selS (selS sel1) | exact selS (selS (selS sel1)) | exact selS (selS (selS (selS sel1))) | exact selS (selS (selS (selS (selS sel1)))) | exact selS (selS (selS (selS (selS (selS sel1)))))); (iterate 3 exact rfl); exact Nat.le_of_ble_eq_true rfl)
    | (apply es_load; (iterate 5 exact rfl); first | exact ld_blk hT rfl rfl mem0 rfl rfl | exact ld_all hT rfl rfl mem0 rfl)
    | (apply es_load; (iterate 5 exact rfl); first | exact ld_blk hT rfl rfl mem1 rfl rfl | exact ld_all hT rfl rfl mem1 rfl)
    | (apply es_load; (iterate 5 exact rfl); first | exact ld_blk hT rfl rfl mem2 rfl rfl | exact ld_all hT rfl rfl mem2 rfl)
    | (apply es_load; (iterate 5 exact rfl); first | exact ld_blk hT rfl rfl mem2 rfl rfl | exact ld_all hT rfl rfl mem2 rfl)
    | (apply es_load; (iterate 5 exact rfl); first | exact ld_blk hT rfl rfl (List.mem_cons_of_mem _ mem2) rfl rfl | exact ld_all hT rfl rfl (List.mem_cons_of_mem _ mem2) rfl)
    | (apply es_load; (iterate 5 exact rfl); first | exact ld_blk hT rfl rfl (List.mem_cons_of_mem _ (List.mem_cons_of_mem _ mem2)) rfl rfl | exact ld_all hT rfl rfl (List.mem_cons_of_mem _ (List.mem_cons_of_mem _ mem2)) rfl)
    | (apply es_load; (iterate 5 exact rfl); first | exact ld_blk hT rfl rfl (List.mem_cons_of_mem _ (List.mem_cons_of_mem _ (List.mem_cons_of_mem _ mem2))) rfl rfl | exact ld_all hT rfl rfl (List.mem_cons_of_mem _ (List.mem_cons_of_mem _ (List.mem_cons_of_mem _ mem2))) rfl)
    | (apply es_load; (iterate 5 exact rfl); first | exact ld_blk hT rfl rfl mem3 rfl rfl | exact ld_all hT rfl rfl mem3 rfl)
    | (apply es_load; (iterate 5 exact rfl); first | exact ld_blk hT rfl rfl (List.mem_cons_of_mem _ mem3) rfl rfl | exact ld_all hT rfl rfl (List.mem_cons_of_mem _ mem3) rfl)
    | (apply es_load; (iterate 5 exact rfl); first | exact ld_blk hT rfl rfl (List.mem_cons_of_mem _ (List.mem_cons_of_mem _ mem3)) rfl rfl | exact ld_all hT rfl rfl (List.mem_cons_of_mem _ (List.mem_cons_of_mem _ mem3)) rfl)
    | (apply es_load; (iterate 5 exact rfl); first | exact ld_blk hT rfl rfl (List.mem_cons_of_mem _ (List.mem_cons_of_mem _ (List.mem_cons_of_mem _ mem3))) rfl rfl | exact ld_all hT rfl rfl (List.mem_cons_of_mem _ (List.mem_cons_of_mem _ (List.mem_cons_of_mem _ mem3))) rfl)
    | (apply es_box; (iterate 5 exact rfl); intro _) | (apply es_alloc hT; (iterate 5 exact rfl); intro _)
    | (apply aw_condT; (iterate 2 exact rfl)) | (apply aw_condF; (iterate 2 exact rfl))
    | (apply es_case; exact rfl; all_goals intro hb; all_goals (try simp only [hb]); all_goals (first | replace hb := of_decide_eq_true hb | replace hb := of_decide_eq_false hb | replace hb := bne_t hb | replace hb := bne_f hb | skip); all_goals (try (exfalso; omega)))
    | (apply aw_cond; exact rfl; all_goals intro hb; all_goals (try simp only [hb]); all_goals (first | replace hb := of_decide_eq_true hb | replace hb := of_decide_eq_false hb | replace hb := bne_t hb | replace hb := bne_f hb | skip); all_goals (try (exfalso; omega))))
  apply ret1; exact rfl; exact rfl
end Go.Proofs.Ytmoglacdddinjaa
