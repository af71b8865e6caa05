/- What the statement DuePlays answers: the program's row and the document's go together. Conditions stand in each statement. -/
import Derived.Test.YtmoglacdddinjaaDueW
import Derived.Test.YtmoglacdddinjaaRef11
set_option linter.unusedSimpArgs false
set_option linter.unusedVariables false
namespace Go.Proofs.Ytmoglacdddinjaa
open Go Go.Sl
attribute [local irreducible] AW ES EP Ld RetQ
set_option maxRecDepth 100000

structure Act11 where
  kind : Int
  due : Due
def Act11.enc (a : Act11) : List Value := .int .i64 a.kind :: a.due.enc
theorem Act11.enc_len (a : Act11) : a.enc.length = 4 := rfl

theorem nextD_is (l : List Due) : ∃ n b, nextD l = .tuple #[.int .i64 n, .bool b] := by
  cases l with
  | nil => exact ⟨0, false, rfl⟩
  | cons x l => exact ⟨x.tick, true, rfl⟩


set_option maxHeartbeats 2000000 in
theorem due_Plays (W : World) (A0 : Option Addr) (c0 : Nat) (ls : List Act11) (hr0 : Reads W [] A0 ls.length 4 (ls.flatMap Act11.enc)) :
    FSpec Try.prog W 5 [.slice A0 ls.length c0] [] (fun v _ => v = .bool true) := by
  refine spec_body Try.func5 rfl rfl Try.results5 Try.ntmps5 rfl rfl ?_
  refine aw_reads hr0 (by rfl) (fun hA0 => ?_)
  by_cases h1 : ls.length > 100
  · repeat' (first
      | apply aw_seq | apply aw_region | apply aw_ret | apply aw_skip | apply aw_exit | apply aw_block | apply es_nil
      | (apply es_pure hT; (iterate 4 exact rfl)) | (apply es_skip; (iterate 3 exact rfl)) | (apply es_skip0; (iterate 2 exact rfl))
      | (apply es_i64 hT; (iterate 4 exact rfl); (iterate 2 omega))
      | (apply aw_draw [] [] hmix; decide +kernel)
      | (apply es_load; (iterate 5 exact rfl); first | exact ld_blk hT rfl rfl mem0 rfl rfl | exact ld_all hT rfl rfl mem0 rfl)
      | (apply es_load; (iterate 5 exact rfl); first | exact ld_blk hT rfl rfl mem1 rfl rfl | exact ld_all hT rfl rfl mem1 rfl)
      | (apply es_load; (iterate 5 exact rfl); first | exact ld_blk hT rfl rfl mem2 rfl rfl | exact ld_all hT rfl rfl mem2 rfl)
      | (apply es_box; (iterate 5 exact rfl); intro _) | (apply es_alloc hT; (iterate 5 exact rfl); intro _)
      | (apply aw_condT; (iterate 2 exact rfl)) | (apply aw_condF; (iterate 2 exact rfl))
      | (apply es_case; exact rfl; all_goals intro hb; all_goals (try simp only [hb]); all_goals (first | replace hb := of_decide_eq_true hb | replace hb := of_decide_eq_false hb | replace hb := bne_t hb | replace hb := bne_f hb | skip); all_goals (try (exfalso; omega)))
      | (apply aw_cond; exact rfl; all_goals intro hb; all_goals (try simp only [hb]); all_goals (first | replace hb := of_decide_eq_true hb | replace hb := of_decide_eq_false hb | replace hb := bne_t hb | replace hb := bne_f hb | skip); all_goals (try (exfalso; omega))))
    apply ret1; exact rfl; exact rfl
  repeat' (first
    | apply aw_seq | apply aw_region | apply aw_ret | apply aw_skip | apply aw_exit | apply aw_block | apply es_nil
    | (apply es_pure hT; (iterate 4 exact rfl)) | (apply es_skip; (iterate 3 exact rfl)) | (apply es_skip0; (iterate 2 exact rfl))
    | (apply es_i64 hT; (iterate 4 exact rfl); (iterate 2 omega))
    | (apply aw_draw [] [] hmix; decide +kernel)
    | (apply es_call (hs := (due_New W _)); (iterate 7 exact rfl); rintro _ _ ⟨p, A, c, rfl, rfl⟩)
    | (apply es_build hT; (iterate 4 exact rfl))
    | (apply es_box; (iterate 5 exact rfl); intro q)
    | (apply es_load; (iterate 5 exact rfl); first | exact ld_blk hT rfl rfl mem0 rfl rfl | exact ld_all hT rfl rfl mem0 rfl)
    | (apply es_load; (iterate 5 exact rfl); first | exact ld_blk hT rfl rfl mem1 rfl rfl | exact ld_all hT rfl rfl mem1 rfl)
    | (apply es_load; (iterate 5 exact rfl); first | exact ld_blk hT rfl rfl mem2 rfl rfl | exact ld_all hT rfl rfl mem2 rfl)
    | (apply es_box; (iterate 5 exact rfl); intro _) | (apply es_alloc hT; (iterate 5 exact rfl); intro _)
    | (apply aw_condT; (iterate 2 exact rfl)) | (apply aw_condF; (iterate 2 exact rfl))
    | (apply es_case; exact rfl; all_goals intro hb; all_goals (try simp only [hb]); all_goals (first | replace hb := of_decide_eq_true hb | replace hb := of_decide_eq_false hb | replace hb := bne_t hb | replace hb := bne_f hb | skip); all_goals (try (exfalso; omega)))
    | (apply aw_cond; exact rfl; all_goals intro hb; all_goals (try simp only [hb]); all_goals (first | replace hb := of_decide_eq_true hb | replace hb := of_decide_eq_false hb | replace hb := bne_t hb | replace hb := bne_f hb | skip); all_goals (try (exfalso; omega))))
  refine aw_loop (α := Nat × List Due × Option Addr × Nat × Option Addr × Nat × List Chunk) (E := fun x => [(0, .slice A0 ls.length c0), (3, .pointer (some ⟨p, 0, none⟩)), (4, .pointer (some ⟨q, 0, none⟩)), (5, .int .i64 x.1)])
    (H := fun x => .blk q 47 [.slice x.2.2.2.2.1 x.2.1.length x.2.2.2.2.2.1] :: dueRow p x.2.2.1 x.2.2.2.1 x.2.1 x.2.2.2.2.2.2) (μ := fun x => ls.length - x.1)
    (S := fun x => x.1 ≤ ls.length ∧ RowD x.2.1 ∧ x.2.1.length ≤ x.1 ∧ RefD W x.2.2.2.2.2.2 x.2.2.2.2.1 x.2.2.2.2.2.1 x.2.1) (0, [], A, c, none, 0, []) (J := [])
    ⟨Nat.zero_le _, RowD.nil, Nat.le_refl _, ⟨Reads.none_, Nat.le_refl _, by dsimp only; omega⟩⟩ ⟨rfl, rfl, rfl, rfl, trivial⟩ (List.Perm.refl _) ?_
  rintro ⟨k, l, A1, c1, A2, c2, B⟩ ⟨hk, hrow, hlen, hr2⟩
  dsimp only at hk hrow hlen hr2 ⊢
  by_cases hlt : k < ls.length
  · obtain ⟨x, hx⟩ : ∃ x, ls[k]? = some x := ⟨ls[k]'(by omega), List.getElem?_eq_getElem (by omega)⟩
    have hx2 : ls[(k : Int).toNat]? = some x := by simpa using hx
    have hA := hA0 (by omega)
    have hd1 : decide ((k : Int) < (ls.length : Int)) = true := by simp; omega
    by_cases hk1 : x.kind = 1
    · have hd2 : (x.kind == 1) = true := by simpa using hk1
      have hlen' := addD_len (l := l) (d := x.due)
      have hadd1 : ∀ g, FSpec Try.prog W 20 [.pointer (some ⟨p, 0, none⟩), .agg x.due.enc.toArray] (.blk g 39 x.due.enc :: .blk q 47 [.slice A2 l.length c2] :: dueRow p A1 c1 l B) _ := fun g =>
        ((due_Add W (.blk g 39 x.due.enc :: .blk q 47 [.slice A2 l.length c2] :: B) p A1 c1 l x.due (by omega) hrow.mono).perm ((selS (selS sel0)).trans ((selS (selS sel0)).cons _)))
      have hadd2 : ∀ g A3 c3, FSpec Try.prog W 25 [.pointer (some ⟨q, 0, none⟩), .agg x.due.enc.toArray] (dueRow p A3 c3 (addD l x.due) (.blk g 39 x.due.enc :: .blk q 47 [.slice A2 l.length c2] :: B)) _ := fun g A3 c3 =>
        ((ref_Add W q A2 c2 l (.blk g 39 x.due.enc :: dueRow p A3 c3 (addD l x.due) []) B x.due hr2 (by omega) hrow).perm ((selS (selS (selS sel0))).trans ((selS (selS sel0)).cons _)))
      by_cases hi : idxOf (hasD x.due.kind x.due.id) l < 0
      · simp only [hi, decide_true] at hadd1 hadd2
        obtain ⟨n, b, hnb⟩ := nextD_is (addD l x.due)
        have hN1 := fun A c => (due_Next W p A c (addD l x.due) (by omega)).cast hnb
        have hN2 := fun A c F B hr => (ref_Next W q A c (addD l x.due) F B hr (by omega)).cast hnb
        have hLn := fun A c => due_Len W p A c (addD l x.due)
        cases b
        all_goals
          repeat' (first
            | apply aw_seq | apply aw_region | apply aw_ret | apply aw_skip | apply aw_exit | apply aw_block | apply es_nil
            | (apply es_pure hT; (iterate 4 exact rfl)) | (apply es_skip; (iterate 3 exact rfl)) | (apply es_skip0; (iterate 2 exact rfl))
            | (apply es_i64 hT; (iterate 4 exact rfl); (iterate 2 omega))
            | (apply es_idx hT; (iterate 8 exact rfl); (iterate 2 omega); exact hA)
            | ((first | (apply es_load; (iterate 5 exact rfl)) | (apply es_loadL; (iterate 5 exact rfl); first | exact fun _ h => h | (first | exact keep1 mem0 | exact keep1 mem1 | exact keep1 mem2 | exact keep1 mem3 | exact keep1 mem4 | exact keep1 mem5))); first | exact ld_fld hT rfl rfl (hr0.mono (by simp)) Act11.enc_len (adr_add _ _ _) hx2 (f := 0) (by decide) rfl | exact ld_sub hT rfl rfl (hr0.mono (by simp)) Act11.enc_len (adr_add _ _ _) hx2 (f := 1) (vs := x.due.enc) (Nat.le_of_ble_eq_true rfl) rfl rfl)
            | (apply es_alloc hT; (iterate 5 exact rfl); intro g6)
            | (apply es_store hT; (iterate 6 exact rfl); exact sel0; (iterate 3 exact rfl); exact Nat.le_of_ble_eq_true rfl)
            | (apply aw_treeH [.blk g6 39 x.due.enc] [] [20, 25] (.step 0 <| .step 1 <| .step 3 <| .step 4 <| .step 2 <| .step 5 <| .step 6 <| .step 7 <| .nil) hmix; decide +kernel) | apply ep_nil | apply ep_alt | (apply ep_step; exact rfl)
            | (apply aw_draw [21] [] hmix; decide +kernel)
            | (apply es_callG (hs := (hadd1 _)); (iterate 7 exact rfl); (rintro _ _ ⟨rfl, A3, c3, rfl⟩; refine ⟨by (first | exact keep1 mem0 | exact keep1 mem1 | exact keep1 mem2 | exact keep1 mem3 | exact keep1 mem4 | exact keep1 mem5), ?_⟩))
            | (apply es_callG (hs := (hadd2 _ _ _)); (iterate 7 exact rfl); (rintro _ _ ⟨rfl, A4, c4, B4, rfl, hr4⟩; refine ⟨by (first | exact keep1 mem0 | exact keep1 mem1 | exact keep1 mem2 | exact keep1 mem3 | exact keep1 mem4 | exact keep1 mem5), ?_⟩))
            | (apply es_callQ (hs := ((hN1 A3 c3).mono (by intro c hc; simp only [dueRow, refRow, List.mem_cons, List.not_mem_nil, or_false, List.cons_append, List.nil_append] at hc ⊢; rcases hc with rfl | rfl <;> simp))); (iterate 7 exact rfl))
            | (apply es_callQ (hs := ((hN2 A4 c4 _ _ hr4))); (iterate 7 exact rfl))
            | (apply es_callQ (hs := ((hLn A3 c3).mono (by intro c hc; simp only [dueRow, refRow, List.mem_cons, List.not_mem_nil, or_false, List.cons_append, List.nil_append] at hc ⊢; rcases hc with rfl | rfl <;> simp))); (iterate 7 exact rfl))
            | ((first | (apply es_load; (iterate 5 exact rfl)) | (apply es_loadL; (iterate 5 exact rfl); first | exact fun _ h => h | (first | exact keep1 mem0 | exact keep1 mem1 | exact keep1 mem2 | exact keep1 mem3 | exact keep1 mem4 | exact keep1 mem5))); first | exact ld_blk hT rfl rfl mem0 rfl rfl | exact ld_all hT rfl rfl mem0 rfl)
            | ((first | (apply es_load; (iterate 5 exact rfl)) | (apply es_loadL; (iterate 5 exact rfl); first | exact fun _ h => h | (first | exact keep1 mem0 | exact keep1 mem1 | exact keep1 mem2 | exact keep1 mem3 | exact keep1 mem4 | exact keep1 mem5))); first | exact ld_blk hT rfl rfl mem1 rfl rfl | exact ld_all hT rfl rfl mem1 rfl)
            | ((first | (apply es_load; (iterate 5 exact rfl)) | (apply es_loadL; (iterate 5 exact rfl); first | exact fun _ h => h | (first | exact keep1 mem0 | exact keep1 mem1 | exact keep1 mem2 | exact keep1 mem3 | exact keep1 mem4 | exact keep1 mem5))); first | exact ld_blk hT rfl rfl mem2 rfl rfl | exact ld_all hT rfl rfl mem2 rfl)
            | ((first | (apply es_load; (iterate 5 exact rfl)) | (apply es_loadL; (iterate 5 exact rfl); first | exact fun _ h => h | (first | exact keep1 mem0 | exact keep1 mem1 | exact keep1 mem2 | exact keep1 mem3 | exact keep1 mem4 | exact keep1 mem5))); first | exact ld_blk hT rfl rfl mem0 rfl rfl | exact ld_all hT rfl rfl mem0 rfl)
            | ((first | (apply es_load; (iterate 5 exact rfl)) | (apply es_loadL; (iterate 5 exact rfl); first | exact fun _ h => h | (first | exact keep1 mem0 | exact keep1 mem1 | exact keep1 mem2 | exact keep1 mem3 | exact keep1 mem4 | exact keep1 mem5))); first | exact ld_blk hT rfl rfl (List.mem_cons_of_mem _ mem0) rfl rfl | exact ld_all hT rfl rfl (List.mem_cons_of_mem _ mem0) rfl)
            | ((first | (apply es_load; (iterate 5 exact rfl)) | (apply es_loadL; (iterate 5 exact rfl); first | exact fun _ h => h | (first | exact keep1 mem0 | exact keep1 mem1 | exact keep1 mem2 | exact keep1 mem3 | exact keep1 mem4 | exact keep1 mem5))); first | exact ld_blk hT rfl rfl (List.mem_cons_of_mem _ (List.mem_cons_of_mem _ mem0)) rfl rfl | exact ld_all hT rfl rfl (List.mem_cons_of_mem _ (List.mem_cons_of_mem _ mem0)) rfl)
            | ((first | (apply es_load; (iterate 5 exact rfl)) | (apply es_loadL; (iterate 5 exact rfl); first | exact fun _ h => h | (first | exact keep1 mem0 | exact keep1 mem1 | exact keep1 mem2 | exact keep1 mem3 | exact keep1 mem4 | exact keep1 mem5))); first | exact ld_blk hT rfl rfl mem1 rfl rfl | exact ld_all hT rfl rfl mem1 rfl)
            | ((first | (apply es_load; (iterate 5 exact rfl)) | (apply es_loadL; (iterate 5 exact rfl); first | exact fun _ h => h | (first | exact keep1 mem0 | exact keep1 mem1 | exact keep1 mem2 | exact keep1 mem3 | exact keep1 mem4 | exact keep1 mem5))); first | exact ld_blk hT rfl rfl (List.mem_cons_of_mem _ mem1) rfl rfl | exact ld_all hT rfl rfl (List.mem_cons_of_mem _ mem1) rfl)
            | ((first | (apply es_load; (iterate 5 exact rfl)) | (apply es_loadL; (iterate 5 exact rfl); first | exact fun _ h => h | (first | exact keep1 mem0 | exact keep1 mem1 | exact keep1 mem2 | exact keep1 mem3 | exact keep1 mem4 | exact keep1 mem5))); first | exact ld_blk hT rfl rfl (List.mem_cons_of_mem _ (List.mem_cons_of_mem _ mem1)) rfl rfl | exact ld_all hT rfl rfl (List.mem_cons_of_mem _ (List.mem_cons_of_mem _ mem1)) rfl)
            | ((first | (apply es_load; (iterate 5 exact rfl)) | (apply es_loadL; (iterate 5 exact rfl); first | exact fun _ h => h | (first | exact keep1 mem0 | exact keep1 mem1 | exact keep1 mem2 | exact keep1 mem3 | exact keep1 mem4 | exact keep1 mem5))); first | exact ld_blk hT rfl rfl mem2 rfl rfl | exact ld_all hT rfl rfl mem2 rfl)
            | ((first | (apply es_load; (iterate 5 exact rfl)) | (apply es_loadL; (iterate 5 exact rfl); first | exact fun _ h => h | (first | exact keep1 mem0 | exact keep1 mem1 | exact keep1 mem2 | exact keep1 mem3 | exact keep1 mem4 | exact keep1 mem5))); first | exact ld_blk hT rfl rfl (List.mem_cons_of_mem _ mem2) rfl rfl | exact ld_all hT rfl rfl (List.mem_cons_of_mem _ mem2) rfl)
            | ((first | (apply es_load; (iterate 5 exact rfl)) | (apply es_loadL; (iterate 5 exact rfl); first | exact fun _ h => h | (first | exact keep1 mem0 | exact keep1 mem1 | exact keep1 mem2 | exact keep1 mem3 | exact keep1 mem4 | exact keep1 mem5))); first | exact ld_blk hT rfl rfl (List.mem_cons_of_mem _ (List.mem_cons_of_mem _ mem2)) rfl rfl | exact ld_all hT rfl rfl (List.mem_cons_of_mem _ (List.mem_cons_of_mem _ mem2)) rfl)
            | (apply es_box; (iterate 5 exact rfl); intro _) | (apply es_alloc hT; (iterate 5 exact rfl); intro _)
            | (apply aw_condT; (iterate 2 exact rfl)) | (apply aw_condF; (iterate 2 exact rfl))
            | (apply es_case; exact rfl; all_goals intro hb; all_goals (try simp only [hb]); all_goals (first | replace hb := of_decide_eq_true hb | replace hb := of_decide_eq_false hb | replace hb := bne_t hb | replace hb := bne_f hb | skip); all_goals (try (exfalso; omega)))
            | (apply aw_cond; exact rfl; all_goals intro hb; all_goals (try simp only [hb]); all_goals (first | replace hb := of_decide_eq_true hb | replace hb := of_decide_eq_false hb | replace hb := bne_t hb | replace hb := bne_f hb | skip); all_goals (try (exfalso; omega))))
        all_goals exact loopq_end (k + 1, (addD l x.due), A3, c3, A4, c4, B4) (by dsimp only; omega) ⟨by dsimp only; omega, addD_row hrow, by dsimp only; omega, hr4⟩ ⟨rfl, rfl, rfl, rfl, trivial⟩ (by apply dt_cons; (first | exact sel0 | exact sel1 | exact selS sel1 | exact selS (selS sel1) | exact selS (selS (selS sel1)) | exact selS (selS (selS (selS sel1))) | exact selS (selS (selS (selS (selS sel1)))) | exact selS (selS (selS (selS (selS (selS sel1)))))); apply dt_cons; (first | exact sel0 | exact sel1 | exact selS sel1 | exact selS (selS sel1) | exact selS (selS (selS sel1)) | exact selS (selS (selS (selS sel1))) | exact selS (selS (selS (selS (selS sel1)))) | exact selS (selS (selS (selS (selS (selS sel1)))))); apply dt_cons; (first | exact sel0 | exact sel1 | exact selS sel1 | exact selS (selS sel1) | exact selS (selS (selS sel1)) | exact selS (selS (selS (selS sel1))) | exact selS (selS (selS (selS (selS sel1)))) | exact selS (selS (selS (selS (selS (selS sel1)))))); (repeat (first | exact dt_end | apply dt_skip)))
      · simp only [hi, decide_false] at hadd1 hadd2
        obtain ⟨n, b, hnb⟩ := nextD_is (addD l x.due)
        have hN1 := fun A c => (due_Next W p A c (addD l x.due) (by omega)).cast hnb
        have hN2 := fun A c F B hr => (ref_Next W q A c (addD l x.due) F B hr (by omega)).cast hnb
        have hLn := fun A c => due_Len W p A c (addD l x.due)
        cases b
        all_goals
          repeat' (first
            | apply aw_seq | apply aw_region | apply aw_ret | apply aw_skip | apply aw_exit | apply aw_block | apply es_nil
            | (apply es_pure hT; (iterate 4 exact rfl)) | (apply es_skip; (iterate 3 exact rfl)) | (apply es_skip0; (iterate 2 exact rfl))
            | (apply es_i64 hT; (iterate 4 exact rfl); (iterate 2 omega))
            | (apply es_idx hT; (iterate 8 exact rfl); (iterate 2 omega); exact hA)
            | ((first | (apply es_load; (iterate 5 exact rfl)) | (apply es_loadL; (iterate 5 exact rfl); first | exact fun _ h => h | (first | exact keep1 mem0 | exact keep1 mem1 | exact keep1 mem2 | exact keep1 mem3 | exact keep1 mem4 | exact keep1 mem5))); first | exact ld_fld hT rfl rfl (hr0.mono (by simp)) Act11.enc_len (adr_add _ _ _) hx2 (f := 0) (by decide) rfl | exact ld_sub hT rfl rfl (hr0.mono (by simp)) Act11.enc_len (adr_add _ _ _) hx2 (f := 1) (vs := x.due.enc) (Nat.le_of_ble_eq_true rfl) rfl rfl)
            | (apply es_alloc hT; (iterate 5 exact rfl); intro g6)
            | (apply es_store hT; (iterate 6 exact rfl); exact sel0; (iterate 3 exact rfl); exact Nat.le_of_ble_eq_true rfl)
            | (apply aw_treeH [.blk g6 39 x.due.enc] [] [20, 25] (.step 0 <| .step 1 <| .step 3 <| .step 4 <| .step 2 <| .step 5 <| .step 6 <| .step 7 <| .nil) hmix; decide +kernel) | apply ep_nil | apply ep_alt | (apply ep_step; exact rfl)
            | (apply aw_draw [21] [] hmix; decide +kernel)
            | (apply es_callG (hs := (hadd1 _)); (iterate 7 exact rfl); (rintro _ _ ⟨rfl, A3, c3, rfl⟩; refine ⟨by (first | exact keep1 mem0 | exact keep1 mem1 | exact keep1 mem2 | exact keep1 mem3 | exact keep1 mem4 | exact keep1 mem5), ?_⟩))
            | (apply es_callG (hs := (hadd2 _ _ _)); (iterate 7 exact rfl); (rintro _ _ ⟨rfl, A4, c4, B4, rfl, hr4⟩; refine ⟨by (first | exact keep1 mem0 | exact keep1 mem1 | exact keep1 mem2 | exact keep1 mem3 | exact keep1 mem4 | exact keep1 mem5), ?_⟩))
            | (apply es_callQ (hs := ((hN1 A3 c3).mono (by intro c hc; simp only [dueRow, refRow, List.mem_cons, List.not_mem_nil, or_false, List.cons_append, List.nil_append] at hc ⊢; rcases hc with rfl | rfl <;> simp))); (iterate 7 exact rfl))
            | (apply es_callQ (hs := ((hN2 A4 c4 _ _ hr4))); (iterate 7 exact rfl))
            | (apply es_callQ (hs := ((hLn A3 c3).mono (by intro c hc; simp only [dueRow, refRow, List.mem_cons, List.not_mem_nil, or_false, List.cons_append, List.nil_append] at hc ⊢; rcases hc with rfl | rfl <;> simp))); (iterate 7 exact rfl))
            | ((first | (apply es_load; (iterate 5 exact rfl)) | (apply es_loadL; (iterate 5 exact rfl); first | exact fun _ h => h | (first | exact keep1 mem0 | exact keep1 mem1 | exact keep1 mem2 | exact keep1 mem3 | exact keep1 mem4 | exact keep1 mem5))); first | exact ld_blk hT rfl rfl mem0 rfl rfl | exact ld_all hT rfl rfl mem0 rfl)
            | ((first | (apply es_load; (iterate 5 exact rfl)) | (apply es_loadL; (iterate 5 exact rfl); first | exact fun _ h => h | (first | exact keep1 mem0 | exact keep1 mem1 | exact keep1 mem2 | exact keep1 mem3 | exact keep1 mem4 | exact keep1 mem5))); first | exact ld_blk hT rfl rfl mem1 rfl rfl | exact ld_all hT rfl rfl mem1 rfl)
            | ((first | (apply es_load; (iterate 5 exact rfl)) | (apply es_loadL; (iterate 5 exact rfl); first | exact fun _ h => h | (first | exact keep1 mem0 | exact keep1 mem1 | exact keep1 mem2 | exact keep1 mem3 | exact keep1 mem4 | exact keep1 mem5))); first | exact ld_blk hT rfl rfl mem2 rfl rfl | exact ld_all hT rfl rfl mem2 rfl)
            | ((first | (apply es_load; (iterate 5 exact rfl)) | (apply es_loadL; (iterate 5 exact rfl); first | exact fun _ h => h | (first | exact keep1 mem0 | exact keep1 mem1 | exact keep1 mem2 | exact keep1 mem3 | exact keep1 mem4 | exact keep1 mem5))); first | exact ld_blk hT rfl rfl mem0 rfl rfl | exact ld_all hT rfl rfl mem0 rfl)
            | ((first | (apply es_load; (iterate 5 exact rfl)) | (apply es_loadL; (iterate 5 exact rfl); first | exact fun _ h => h | (first | exact keep1 mem0 | exact keep1 mem1 | exact keep1 mem2 | exact keep1 mem3 | exact keep1 mem4 | exact keep1 mem5))); first | exact ld_blk hT rfl rfl (List.mem_cons_of_mem _ mem0) rfl rfl | exact ld_all hT rfl rfl (List.mem_cons_of_mem _ mem0) rfl)
            | ((first | (apply es_load; (iterate 5 exact rfl)) | (apply es_loadL; (iterate 5 exact rfl); first | exact fun _ h => h | (first | exact keep1 mem0 | exact keep1 mem1 | exact keep1 mem2 | exact keep1 mem3 | exact keep1 mem4 | exact keep1 mem5))); first | exact ld_blk hT rfl rfl (List.mem_cons_of_mem _ (List.mem_cons_of_mem _ mem0)) rfl rfl | exact ld_all hT rfl rfl (List.mem_cons_of_mem _ (List.mem_cons_of_mem _ mem0)) rfl)
            | ((first | (apply es_load; (iterate 5 exact rfl)) | (apply es_loadL; (iterate 5 exact rfl); first | exact fun _ h => h | (first | exact keep1 mem0 | exact keep1 mem1 | exact keep1 mem2 | exact keep1 mem3 | exact keep1 mem4 | exact keep1 mem5))); first | exact ld_blk hT rfl rfl mem1 rfl rfl | exact ld_all hT rfl rfl mem1 rfl)
            | ((first | (apply es_load; (iterate 5 exact rfl)) | (apply es_loadL; (iterate 5 exact rfl); first | exact fun _ h => h | (first | exact keep1 mem0 | exact keep1 mem1 | exact keep1 mem2 | exact keep1 mem3 | exact keep1 mem4 | exact keep1 mem5))); first | exact ld_blk hT rfl rfl (List.mem_cons_of_mem _ mem1) rfl rfl | exact ld_all hT rfl rfl (List.mem_cons_of_mem _ mem1) rfl)
            | ((first | (apply es_load; (iterate 5 exact rfl)) | (apply es_loadL; (iterate 5 exact rfl); first | exact fun _ h => h | (first | exact keep1 mem0 | exact keep1 mem1 | exact keep1 mem2 | exact keep1 mem3 | exact keep1 mem4 | exact keep1 mem5))); first | exact ld_blk hT rfl rfl (List.mem_cons_of_mem _ (List.mem_cons_of_mem _ mem1)) rfl rfl | exact ld_all hT rfl rfl (List.mem_cons_of_mem _ (List.mem_cons_of_mem _ mem1)) rfl)
            | ((first | (apply es_load; (iterate 5 exact rfl)) | (apply es_loadL; (iterate 5 exact rfl); first | exact fun _ h => h | (first | exact keep1 mem0 | exact keep1 mem1 | exact keep1 mem2 | exact keep1 mem3 | exact keep1 mem4 | exact keep1 mem5))); first | exact ld_blk hT rfl rfl mem2 rfl rfl | exact ld_all hT rfl rfl mem2 rfl)
            | ((first | (apply es_load; (iterate 5 exact rfl)) | (apply es_loadL; (iterate 5 exact rfl); first | exact fun _ h => h | (first | exact keep1 mem0 | exact keep1 mem1 | exact keep1 mem2 | exact keep1 mem3 | exact keep1 mem4 | exact keep1 mem5))); first | exact ld_blk hT rfl rfl (List.mem_cons_of_mem _ mem2) rfl rfl | exact ld_all hT rfl rfl (List.mem_cons_of_mem _ mem2) rfl)
            | ((first | (apply es_load; (iterate 5 exact rfl)) | (apply es_loadL; (iterate 5 exact rfl); first | exact fun _ h => h | (first | exact keep1 mem0 | exact keep1 mem1 | exact keep1 mem2 | exact keep1 mem3 | exact keep1 mem4 | exact keep1 mem5))); first | exact ld_blk hT rfl rfl (List.mem_cons_of_mem _ (List.mem_cons_of_mem _ mem2)) rfl rfl | exact ld_all hT rfl rfl (List.mem_cons_of_mem _ (List.mem_cons_of_mem _ mem2)) rfl)
            | (apply es_box; (iterate 5 exact rfl); intro _) | (apply es_alloc hT; (iterate 5 exact rfl); intro _)
            | (apply aw_condT; (iterate 2 exact rfl)) | (apply aw_condF; (iterate 2 exact rfl))
            | (apply es_case; exact rfl; all_goals intro hb; all_goals (try simp only [hb]); all_goals (first | replace hb := of_decide_eq_true hb | replace hb := of_decide_eq_false hb | replace hb := bne_t hb | replace hb := bne_f hb | skip); all_goals (try (exfalso; omega)))
            | (apply aw_cond; exact rfl; all_goals intro hb; all_goals (try simp only [hb]); all_goals (first | replace hb := of_decide_eq_true hb | replace hb := of_decide_eq_false hb | replace hb := bne_t hb | replace hb := bne_f hb | skip); all_goals (try (exfalso; omega))))
        all_goals exact loopq_end (k + 1, (addD l x.due), A3, c3, A4, c4, B4) (by dsimp only; omega) ⟨by dsimp only; omega, addD_row hrow, by dsimp only; omega, hr4⟩ ⟨rfl, rfl, rfl, rfl, trivial⟩ (by apply dt_cons; (first | exact sel0 | exact sel1 | exact selS sel1 | exact selS (selS sel1) | exact selS (selS (selS sel1)) | exact selS (selS (selS (selS sel1))) | exact selS (selS (selS (selS (selS sel1)))) | exact selS (selS (selS (selS (selS (selS sel1)))))); apply dt_cons; (first | exact sel0 | exact sel1 | exact selS sel1 | exact selS (selS sel1) | exact selS (selS (selS sel1)) | exact selS (selS (selS (selS sel1))) | exact selS (selS (selS (selS (selS sel1)))) | exact selS (selS (selS (selS (selS (selS sel1)))))); apply dt_cons; (first | exact sel0 | exact sel1 | exact selS sel1 | exact selS (selS sel1) | exact selS (selS (selS sel1)) | exact selS (selS (selS (selS sel1))) | exact selS (selS (selS (selS (selS sel1)))) | exact selS (selS (selS (selS (selS (selS sel1)))))); (repeat (first | exact dt_end | apply dt_skip)))
    · have hd2 : (x.kind == 1) = false := by simpa using hk1
      by_cases hk2 : x.kind = 2
      · have hd3 : (x.kind == 2) = true := by simpa using hk2
        have hlen' := (dropD_sub (l := l) (kind := x.due.kind) (id := x.due.id)).length_le
        have hadd1 : ∀ g, FSpec Try.prog W 22 [.pointer (some ⟨p, 0, none⟩), .int .i64 x.due.kind, .int .i64 x.due.id] (.blk g 39 x.due.enc :: .blk q 47 [.slice A2 l.length c2] :: dueRow p A1 c1 l B) _ := fun g =>
          ((due_Drop W (.blk g 39 x.due.enc :: .blk q 47 [.slice A2 l.length c2] :: B) p A1 c1 l x.due.kind x.due.id (by omega)).perm ((selS (selS sel0)).trans ((selS (selS sel0)).cons _)))
        have hadd2 : ∀ g A3 c3, FSpec Try.prog W 26 [.pointer (some ⟨q, 0, none⟩), .int .i64 x.due.kind, .int .i64 x.due.id] (dueRow p A3 c3 (dropD l x.due.kind x.due.id) (.blk g 39 x.due.enc :: .blk q 47 [.slice A2 l.length c2] :: B)) _ := fun g A3 c3 =>
          ((ref_Drop W q A2 c2 l (.blk g 39 x.due.enc :: dueRow p A3 c3 (dropD l x.due.kind x.due.id) []) B x.due.kind x.due.id hr2 (by omega) hrow).perm ((selS (selS (selS sel0))).trans ((selS (selS sel0)).cons _)))
        by_cases hi : idxOf (hasD x.due.kind x.due.id) l < 0
        · simp only [hi, not_true_eq_false, decide_false] at hadd1 hadd2
          obtain ⟨n, b, hnb⟩ := nextD_is (dropD l x.due.kind x.due.id)
          have hN1 := fun A c => (due_Next W p A c (dropD l x.due.kind x.due.id) (by omega)).cast hnb
          have hN2 := fun A c F B hr => (ref_Next W q A c (dropD l x.due.kind x.due.id) F B hr (by omega)).cast hnb
          have hLn := fun A c => due_Len W p A c (dropD l x.due.kind x.due.id)
          cases b
          all_goals
            repeat' (first
              | apply aw_seq | apply aw_region | apply aw_ret | apply aw_skip | apply aw_exit | apply aw_block | apply es_nil
              | (apply es_pure hT; (iterate 4 exact rfl)) | (apply es_skip; (iterate 3 exact rfl)) | (apply es_skip0; (iterate 2 exact rfl))
              | (apply es_i64 hT; (iterate 4 exact rfl); (iterate 2 omega))
              | (apply es_idx hT; (iterate 8 exact rfl); (iterate 2 omega); exact hA)
              | ((first | (apply es_load; (iterate 5 exact rfl)) | (apply es_loadL; (iterate 5 exact rfl); first | exact fun _ h => h | (first | exact keep1 mem0 | exact keep1 mem1 | exact keep1 mem2 | exact keep1 mem3 | exact keep1 mem4 | exact keep1 mem5))); first | exact ld_fld hT rfl rfl (hr0.mono (by simp)) Act11.enc_len (adr_add _ _ _) hx2 (f := 0) (by decide) rfl | exact ld_sub hT rfl rfl (hr0.mono (by simp)) Act11.enc_len (adr_add _ _ _) hx2 (f := 1) (vs := x.due.enc) (Nat.le_of_ble_eq_true rfl) rfl rfl)
              | (apply es_alloc hT; (iterate 5 exact rfl); intro g6)
              | (apply es_store hT; (iterate 6 exact rfl); exact sel0; (iterate 3 exact rfl); exact Nat.le_of_ble_eq_true rfl)
              | (apply aw_treeH [.blk g6 39 x.due.enc] [] [22, 26] (.step 0 <| .step 1 <| .step 2 <| .step 3 <| .step 4 <| .step 6 <| .step 7 <| .step 8 <| .step 9 <| .step 10 <| .step 5 <| .step 11 <| .step 12 <| .step 13 <| .nil) hmix; decide +kernel) | apply ep_nil | apply ep_alt | (apply ep_step; exact rfl)
              | (apply aw_draw [21] [] hmix; decide +kernel)
              | (apply es_callG (hs := (hadd1 _)); (iterate 7 exact rfl); (rintro _ _ ⟨rfl, A3, c3, rfl⟩; refine ⟨by (first | exact keep1 mem0 | exact keep1 mem1 | exact keep1 mem2 | exact keep1 mem3 | exact keep1 mem4 | exact keep1 mem5), ?_⟩))
              | (apply es_callG (hs := (hadd2 _ _ _)); (iterate 7 exact rfl); (rintro _ _ ⟨rfl, A4, c4, B4, rfl, hr4⟩; refine ⟨by (first | exact keep1 mem0 | exact keep1 mem1 | exact keep1 mem2 | exact keep1 mem3 | exact keep1 mem4 | exact keep1 mem5), ?_⟩))
              | (apply es_callQ (hs := ((hN1 A3 c3).mono (by intro c hc; simp only [dueRow, refRow, List.mem_cons, List.not_mem_nil, or_false, List.cons_append, List.nil_append] at hc ⊢; rcases hc with rfl | rfl <;> simp))); (iterate 7 exact rfl))
              | (apply es_callQ (hs := ((hN2 A4 c4 _ _ hr4))); (iterate 7 exact rfl))
              | (apply es_callQ (hs := ((hLn A3 c3).mono (by intro c hc; simp only [dueRow, refRow, List.mem_cons, List.not_mem_nil, or_false, List.cons_append, List.nil_append] at hc ⊢; rcases hc with rfl | rfl <;> simp))); (iterate 7 exact rfl))
              | ((first | (apply es_load; (iterate 5 exact rfl)) | (apply es_loadL; (iterate 5 exact rfl); first | exact fun _ h => h | (first | exact keep1 mem0 | exact keep1 mem1 | exact keep1 mem2 | exact keep1 mem3 | exact keep1 mem4 | exact keep1 mem5))); first | exact ld_blk hT rfl rfl mem0 rfl rfl | exact ld_all hT rfl rfl mem0 rfl)
              | ((first | (apply es_load; (iterate 5 exact rfl)) | (apply es_loadL; (iterate 5 exact rfl); first | exact fun _ h => h | (first | exact keep1 mem0 | exact keep1 mem1 | exact keep1 mem2 | exact keep1 mem3 | exact keep1 mem4 | exact keep1 mem5))); first | exact ld_blk hT rfl rfl mem1 rfl rfl | exact ld_all hT rfl rfl mem1 rfl)
              | ((first | (apply es_load; (iterate 5 exact rfl)) | (apply es_loadL; (iterate 5 exact rfl); first | exact fun _ h => h | (first | exact keep1 mem0 | exact keep1 mem1 | exact keep1 mem2 | exact keep1 mem3 | exact keep1 mem4 | exact keep1 mem5))); first | exact ld_blk hT rfl rfl mem2 rfl rfl | exact ld_all hT rfl rfl mem2 rfl)
              | ((first | (apply es_load; (iterate 5 exact rfl)) | (apply es_loadL; (iterate 5 exact rfl); first | exact fun _ h => h | (first | exact keep1 mem0 | exact keep1 mem1 | exact keep1 mem2 | exact keep1 mem3 | exact keep1 mem4 | exact keep1 mem5))); first | exact ld_blk hT rfl rfl mem0 rfl rfl | exact ld_all hT rfl rfl mem0 rfl)
              | ((first | (apply es_load; (iterate 5 exact rfl)) | (apply es_loadL; (iterate 5 exact rfl); first | exact fun _ h => h | (first | exact keep1 mem0 | exact keep1 mem1 | exact keep1 mem2 | exact keep1 mem3 | exact keep1 mem4 | exact keep1 mem5))); first | exact ld_blk hT rfl rfl (List.mem_cons_of_mem _ mem0) rfl rfl | exact ld_all hT rfl rfl (List.mem_cons_of_mem _ mem0) rfl)
              | ((first | (apply es_load; (iterate 5 exact rfl)) | (apply es_loadL; (iterate 5 exact rfl); first | exact fun _ h => h | (first | exact keep1 mem0 | exact keep1 mem1 | exact keep1 mem2 | exact keep1 mem3 | exact keep1 mem4 | exact keep1 mem5))); first | exact ld_blk hT rfl rfl (List.mem_cons_of_mem _ (List.mem_cons_of_mem _ mem0)) rfl rfl | exact ld_all hT rfl rfl (List.mem_cons_of_mem _ (List.mem_cons_of_mem _ mem0)) rfl)
              | ((first | (apply es_load; (iterate 5 exact rfl)) | (apply es_loadL; (iterate 5 exact rfl); first | exact fun _ h => h | (first | exact keep1 mem0 | exact keep1 mem1 | exact keep1 mem2 | exact keep1 mem3 | exact keep1 mem4 | exact keep1 mem5))); first | exact ld_blk hT rfl rfl mem1 rfl rfl | exact ld_all hT rfl rfl mem1 rfl)
              | ((first | (apply es_load; (iterate 5 exact rfl)) | (apply es_loadL; (iterate 5 exact rfl); first | exact fun _ h => h | (first | exact keep1 mem0 | exact keep1 mem1 | exact keep1 mem2 | exact keep1 mem3 | exact keep1 mem4 | exact keep1 mem5))); first | exact ld_blk hT rfl rfl (List.mem_cons_of_mem _ mem1) rfl rfl | exact ld_all hT rfl rfl (List.mem_cons_of_mem _ mem1) rfl)
              | ((first | (apply es_load; (iterate 5 exact rfl)) | (apply es_loadL; (iterate 5 exact rfl); first | exact fun _ h => h | (first | exact keep1 mem0 | exact keep1 mem1 | exact keep1 mem2 | exact keep1 mem3 | exact keep1 mem4 | exact keep1 mem5))); first | exact ld_blk hT rfl rfl (List.mem_cons_of_mem _ (List.mem_cons_of_mem _ mem1)) rfl rfl | exact ld_all hT rfl rfl (List.mem_cons_of_mem _ (List.mem_cons_of_mem _ mem1)) rfl)
              | ((first | (apply es_load; (iterate 5 exact rfl)) | (apply es_loadL; (iterate 5 exact rfl); first | exact fun _ h => h | (first | exact keep1 mem0 | exact keep1 mem1 | exact keep1 mem2 | exact keep1 mem3 | exact keep1 mem4 | exact keep1 mem5))); first | exact ld_blk hT rfl rfl mem2 rfl rfl | exact ld_all hT rfl rfl mem2 rfl)
              | ((first | (apply es_load; (iterate 5 exact rfl)) | (apply es_loadL; (iterate 5 exact rfl); first | exact fun _ h => h | (first | exact keep1 mem0 | exact keep1 mem1 | exact keep1 mem2 | exact keep1 mem3 | exact keep1 mem4 | exact keep1 mem5))); first | exact ld_blk hT rfl rfl (List.mem_cons_of_mem _ mem2) rfl rfl | exact ld_all hT rfl rfl (List.mem_cons_of_mem _ mem2) rfl)
              | ((first | (apply es_load; (iterate 5 exact rfl)) | (apply es_loadL; (iterate 5 exact rfl); first | exact fun _ h => h | (first | exact keep1 mem0 | exact keep1 mem1 | exact keep1 mem2 | exact keep1 mem3 | exact keep1 mem4 | exact keep1 mem5))); first | exact ld_blk hT rfl rfl (List.mem_cons_of_mem _ (List.mem_cons_of_mem _ mem2)) rfl rfl | exact ld_all hT rfl rfl (List.mem_cons_of_mem _ (List.mem_cons_of_mem _ mem2)) rfl)
              | (apply es_box; (iterate 5 exact rfl); intro _) | (apply es_alloc hT; (iterate 5 exact rfl); intro _)
              | (apply aw_condT; (iterate 2 exact rfl)) | (apply aw_condF; (iterate 2 exact rfl))
              | (apply es_case; exact rfl; all_goals intro hb; all_goals (try simp only [hb]); all_goals (first | replace hb := of_decide_eq_true hb | replace hb := of_decide_eq_false hb | replace hb := bne_t hb | replace hb := bne_f hb | skip); all_goals (try (exfalso; omega)))
              | (apply aw_cond; exact rfl; all_goals intro hb; all_goals (try simp only [hb]); all_goals (first | replace hb := of_decide_eq_true hb | replace hb := of_decide_eq_false hb | replace hb := bne_t hb | replace hb := bne_f hb | skip); all_goals (try (exfalso; omega))))
          all_goals exact loopq_end (k + 1, (dropD l x.due.kind x.due.id), A3, c3, A4, c4, B4) (by dsimp only; omega) ⟨by dsimp only; omega, hrow.sub dropD_sub, by dsimp only; omega, hr4⟩ ⟨rfl, rfl, rfl, rfl, trivial⟩ (by apply dt_cons; (first | exact sel0 | exact sel1 | exact selS sel1 | exact selS (selS sel1) | exact selS (selS (selS sel1)) | exact selS (selS (selS (selS sel1))) | exact selS (selS (selS (selS (selS sel1)))) | exact selS (selS (selS (selS (selS (selS sel1)))))); apply dt_cons; (first | exact sel0 | exact sel1 | exact selS sel1 | exact selS (selS sel1) | exact selS (selS (selS sel1)) | exact selS (selS (selS (selS sel1))) | exact selS (selS (selS (selS (selS sel1)))) | exact selS (selS (selS (selS (selS (selS sel1)))))); apply dt_cons; (first | exact sel0 | exact sel1 | exact selS sel1 | exact selS (selS sel1) | exact selS (selS (selS sel1)) | exact selS (selS (selS (selS sel1))) | exact selS (selS (selS (selS (selS sel1)))) | exact selS (selS (selS (selS (selS (selS sel1)))))); (repeat (first | exact dt_end | apply dt_skip)))
        · simp only [hi, not_false_eq_true, decide_true] at hadd1 hadd2
          obtain ⟨n, b, hnb⟩ := nextD_is (dropD l x.due.kind x.due.id)
          have hN1 := fun A c => (due_Next W p A c (dropD l x.due.kind x.due.id) (by omega)).cast hnb
          have hN2 := fun A c F B hr => (ref_Next W q A c (dropD l x.due.kind x.due.id) F B hr (by omega)).cast hnb
          have hLn := fun A c => due_Len W p A c (dropD l x.due.kind x.due.id)
          cases b
          all_goals
            repeat' (first
              | apply aw_seq | apply aw_region | apply aw_ret | apply aw_skip | apply aw_exit | apply aw_block | apply es_nil
              | (apply es_pure hT; (iterate 4 exact rfl)) | (apply es_skip; (iterate 3 exact rfl)) | (apply es_skip0; (iterate 2 exact rfl))
              | (apply es_i64 hT; (iterate 4 exact rfl); (iterate 2 omega))
              | (apply es_idx hT; (iterate 8 exact rfl); (iterate 2 omega); exact hA)
              | ((first | (apply es_load; (iterate 5 exact rfl)) | (apply es_loadL; (iterate 5 exact rfl); first | exact fun _ h => h | (first | exact keep1 mem0 | exact keep1 mem1 | exact keep1 mem2 | exact keep1 mem3 | exact keep1 mem4 | exact keep1 mem5))); first | exact ld_fld hT rfl rfl (hr0.mono (by simp)) Act11.enc_len (adr_add _ _ _) hx2 (f := 0) (by decide) rfl | exact ld_sub hT rfl rfl (hr0.mono (by simp)) Act11.enc_len (adr_add _ _ _) hx2 (f := 1) (vs := x.due.enc) (Nat.le_of_ble_eq_true rfl) rfl rfl)
              | (apply es_alloc hT; (iterate 5 exact rfl); intro g6)
              | (apply es_store hT; (iterate 6 exact rfl); exact sel0; (iterate 3 exact rfl); exact Nat.le_of_ble_eq_true rfl)
              | (apply aw_treeH [.blk g6 39 x.due.enc] [] [22, 26] (.step 0 <| .step 1 <| .step 2 <| .step 3 <| .step 4 <| .step 6 <| .step 7 <| .step 8 <| .step 9 <| .step 10 <| .step 5 <| .step 11 <| .step 12 <| .step 13 <| .nil) hmix; decide +kernel) | apply ep_nil | apply ep_alt | (apply ep_step; exact rfl)
              | (apply aw_draw [21] [] hmix; decide +kernel)
              | (apply es_callG (hs := (hadd1 _)); (iterate 7 exact rfl); (rintro _ _ ⟨rfl, A3, c3, rfl⟩; refine ⟨by (first | exact keep1 mem0 | exact keep1 mem1 | exact keep1 mem2 | exact keep1 mem3 | exact keep1 mem4 | exact keep1 mem5), ?_⟩))
              | (apply es_callG (hs := (hadd2 _ _ _)); (iterate 7 exact rfl); (rintro _ _ ⟨rfl, A4, c4, B4, rfl, hr4⟩; refine ⟨by (first | exact keep1 mem0 | exact keep1 mem1 | exact keep1 mem2 | exact keep1 mem3 | exact keep1 mem4 | exact keep1 mem5), ?_⟩))
              | (apply es_callQ (hs := ((hN1 A3 c3).mono (by intro c hc; simp only [dueRow, refRow, List.mem_cons, List.not_mem_nil, or_false, List.cons_append, List.nil_append] at hc ⊢; rcases hc with rfl | rfl <;> simp))); (iterate 7 exact rfl))
              | (apply es_callQ (hs := ((hN2 A4 c4 _ _ hr4))); (iterate 7 exact rfl))
              | (apply es_callQ (hs := ((hLn A3 c3).mono (by intro c hc; simp only [dueRow, refRow, List.mem_cons, List.not_mem_nil, or_false, List.cons_append, List.nil_append] at hc ⊢; rcases hc with rfl | rfl <;> simp))); (iterate 7 exact rfl))
              | ((first | (apply es_load; (iterate 5 exact rfl)) | (apply es_loadL; (iterate 5 exact rfl); first | exact fun _ h => h | (first | exact keep1 mem0 | exact keep1 mem1 | exact keep1 mem2 | exact keep1 mem3 | exact keep1 mem4 | exact keep1 mem5))); first | exact ld_blk hT rfl rfl mem0 rfl rfl | exact ld_all hT rfl rfl mem0 rfl)
              | ((first | (apply es_load; (iterate 5 exact rfl)) | (apply es_loadL; (iterate 5 exact rfl); first | exact fun _ h => h | (first | exact keep1 mem0 | exact keep1 mem1 | exact keep1 mem2 | exact keep1 mem3 | exact keep1 mem4 | exact keep1 mem5))); first | exact ld_blk hT rfl rfl mem1 rfl rfl | exact ld_all hT rfl rfl mem1 rfl)
              | ((first | (apply es_load; (iterate 5 exact rfl)) | (apply es_loadL; (iterate 5 exact rfl); first | exact fun _ h => h | (first | exact keep1 mem0 | exact keep1 mem1 | exact keep1 mem2 | exact keep1 mem3 | exact keep1 mem4 | exact keep1 mem5))); first | exact ld_blk hT rfl rfl mem2 rfl rfl | exact ld_all hT rfl rfl mem2 rfl)
              | ((first | (apply es_load; (iterate 5 exact rfl)) | (apply es_loadL; (iterate 5 exact rfl); first | exact fun _ h => h | (first | exact keep1 mem0 | exact keep1 mem1 | exact keep1 mem2 | exact keep1 mem3 | exact keep1 mem4 | exact keep1 mem5))); first | exact ld_blk hT rfl rfl mem0 rfl rfl | exact ld_all hT rfl rfl mem0 rfl)
              | ((first | (apply es_load; (iterate 5 exact rfl)) | (apply es_loadL; (iterate 5 exact rfl); first | exact fun _ h => h | (first | exact keep1 mem0 | exact keep1 mem1 | exact keep1 mem2 | exact keep1 mem3 | exact keep1 mem4 | exact keep1 mem5))); first | exact ld_blk hT rfl rfl (List.mem_cons_of_mem _ mem0) rfl rfl | exact ld_all hT rfl rfl (List.mem_cons_of_mem _ mem0) rfl)
              | ((first | (apply es_load; (iterate 5 exact rfl)) | (apply es_loadL; (iterate 5 exact rfl); first | exact fun _ h => h | (first | exact keep1 mem0 | exact keep1 mem1 | exact keep1 mem2 | exact keep1 mem3 | exact keep1 mem4 | exact keep1 mem5))); first | exact ld_blk hT rfl rfl (List.mem_cons_of_mem _ (List.mem_cons_of_mem _ mem0)) rfl rfl | exact ld_all hT rfl rfl (List.mem_cons_of_mem _ (List.mem_cons_of_mem _ mem0)) rfl)
              | ((first | (apply es_load; (iterate 5 exact rfl)) | (apply es_loadL; (iterate 5 exact rfl); first | exact fun _ h => h | (first | exact keep1 mem0 | exact keep1 mem1 | exact keep1 mem2 | exact keep1 mem3 | exact keep1 mem4 | exact keep1 mem5))); first | exact ld_blk hT rfl rfl mem1 rfl rfl | exact ld_all hT rfl rfl mem1 rfl)
              | ((first | (apply es_load; (iterate 5 exact rfl)) | (apply es_loadL; (iterate 5 exact rfl); first | exact fun _ h => h | (first | exact keep1 mem0 | exact keep1 mem1 | exact keep1 mem2 | exact keep1 mem3 | exact keep1 mem4 | exact keep1 mem5))); first | exact ld_blk hT rfl rfl (List.mem_cons_of_mem _ mem1) rfl rfl | exact ld_all hT rfl rfl (List.mem_cons_of_mem _ mem1) rfl)
              | ((first | (apply es_load; (iterate 5 exact rfl)) | (apply es_loadL; (iterate 5 exact rfl); first | exact fun _ h => h | (first | exact keep1 mem0 | exact keep1 mem1 | exact keep1 mem2 | exact keep1 mem3 | exact keep1 mem4 | exact keep1 mem5))); first | exact ld_blk hT rfl rfl (List.mem_cons_of_mem _ (List.mem_cons_of_mem _ mem1)) rfl rfl | exact ld_all hT rfl rfl (List.mem_cons_of_mem _ (List.mem_cons_of_mem _ mem1)) rfl)
              | ((first | (apply es_load; (iterate 5 exact rfl)) | (apply es_loadL; (iterate 5 exact rfl); first | exact fun _ h => h | (first | exact keep1 mem0 | exact keep1 mem1 | exact keep1 mem2 | exact keep1 mem3 | exact keep1 mem4 | exact keep1 mem5))); first | exact ld_blk hT rfl rfl mem2 rfl rfl | exact ld_all hT rfl rfl mem2 rfl)
              | ((first | (apply es_load; (iterate 5 exact rfl)) | (apply es_loadL; (iterate 5 exact rfl); first | exact fun _ h => h | (first | exact keep1 mem0 | exact keep1 mem1 | exact keep1 mem2 | exact keep1 mem3 | exact keep1 mem4 | exact keep1 mem5))); first | exact ld_blk hT rfl rfl (List.mem_cons_of_mem _ mem2) rfl rfl | exact ld_all hT rfl rfl (List.mem_cons_of_mem _ mem2) rfl)
              | ((first | (apply es_load; (iterate 5 exact rfl)) | (apply es_loadL; (iterate 5 exact rfl); first | exact fun _ h => h | (first | exact keep1 mem0 | exact keep1 mem1 | exact keep1 mem2 | exact keep1 mem3 | exact keep1 mem4 | exact keep1 mem5))); first | exact ld_blk hT rfl rfl (List.mem_cons_of_mem _ (List.mem_cons_of_mem _ mem2)) rfl rfl | exact ld_all hT rfl rfl (List.mem_cons_of_mem _ (List.mem_cons_of_mem _ mem2)) rfl)
              | (apply es_box; (iterate 5 exact rfl); intro _) | (apply es_alloc hT; (iterate 5 exact rfl); intro _)
              | (apply aw_condT; (iterate 2 exact rfl)) | (apply aw_condF; (iterate 2 exact rfl))
              | (apply es_case; exact rfl; all_goals intro hb; all_goals (try simp only [hb]); all_goals (first | replace hb := of_decide_eq_true hb | replace hb := of_decide_eq_false hb | replace hb := bne_t hb | replace hb := bne_f hb | skip); all_goals (try (exfalso; omega)))
              | (apply aw_cond; exact rfl; all_goals intro hb; all_goals (try simp only [hb]); all_goals (first | replace hb := of_decide_eq_true hb | replace hb := of_decide_eq_false hb | replace hb := bne_t hb | replace hb := bne_f hb | skip); all_goals (try (exfalso; omega))))
          all_goals exact loopq_end (k + 1, (dropD l x.due.kind x.due.id), A3, c3, A4, c4, B4) (by dsimp only; omega) ⟨by dsimp only; omega, hrow.sub dropD_sub, by dsimp only; omega, hr4⟩ ⟨rfl, rfl, rfl, rfl, trivial⟩ (by apply dt_cons; (first | exact sel0 | exact sel1 | exact selS sel1 | exact selS (selS sel1) | exact selS (selS (selS sel1)) | exact selS (selS (selS (selS sel1))) | exact selS (selS (selS (selS (selS sel1)))) | exact selS (selS (selS (selS (selS (selS sel1)))))); apply dt_cons; (first | exact sel0 | exact sel1 | exact selS sel1 | exact selS (selS sel1) | exact selS (selS (selS sel1)) | exact selS (selS (selS (selS sel1))) | exact selS (selS (selS (selS (selS sel1)))) | exact selS (selS (selS (selS (selS (selS sel1)))))); apply dt_cons; (first | exact sel0 | exact sel1 | exact selS sel1 | exact selS (selS sel1) | exact selS (selS (selS sel1)) | exact selS (selS (selS (selS sel1))) | exact selS (selS (selS (selS (selS sel1)))) | exact selS (selS (selS (selS (selS (selS sel1)))))); (repeat (first | exact dt_end | apply dt_skip)))
      · have hd3 : (x.kind == 2) = false := by simpa using hk2
        generalize hm : takeN l x.due.tick = m
        have hml : m ≤ l.length := by rw [← hm]; exact takeN_le l _
        have hlen' : (l.drop m).length ≤ l.length := by simp
        have e : (l.take m).length = m := by simp; omega
        have hT1 : ∀ g, FSpec Try.prog W 23 [.pointer (some ⟨p, 0, none⟩), .int .i64 x.due.tick] (.blk g 39 x.due.enc :: .blk q 47 [.slice A2 l.length c2] :: dueRow p A1 c1 l B)
            (fun v k => ∃ A5 c5 A3 c3, v = .slice A5 m c5 ∧ k = .own A5 m c5 39 3 ((l.take m).flatMap Due.enc) :: dueRow p A3 c3 (l.drop m) (.blk g 39 x.due.enc :: .blk q 47 [.slice A2 l.length c2] :: B) ∧ OwnF A5 m c5 3 ((l.take m).flatMap Due.enc)) := fun g => by
          rw [← hm]
          exact (due_TakeF W (.blk g 39 x.due.enc :: .blk q 47 [.slice A2 l.length c2] :: B) p A1 c1 l x.due.tick (by omega)).perm ((selS (selS sel0)).trans ((selS (selS sel0)).cons _))
        have hT2 : ∀ g A5 c5 A3 c3, FSpec Try.prog W 28 [.pointer (some ⟨q, 0, none⟩), .int .i64 x.due.tick] (.own A5 m c5 39 3 ((l.take m).flatMap Due.enc) :: dueRow p A3 c3 (l.drop m) (.blk g 39 x.due.enc :: .blk q 47 [.slice A2 l.length c2] :: B))
            (fun v h' => ∃ A6 c6 A' c' B', v = .slice A6 m c6 ∧ h' = refRow q A' c' (l.drop m) (.own A5 m c5 39 3 ((l.take m).flatMap Due.enc) :: .blk g 39 x.due.enc :: dueRow p A3 c3 (l.drop m) []) B' ∧ RefD W B' A' c' (l.drop m) ∧ Reads W B' A6 m 3 ((l.take m).flatMap Due.enc)) := fun g A5 c5 A3 c3 => by
          have := ref_Take W q A2 c2 l (.own A5 m c5 39 3 ((l.take m).flatMap Due.enc) :: .blk g 39 x.due.enc :: dueRow p A3 c3 (l.drop m) []) B x.due.tick hr2 (by omega)
          rw [hm] at this
          exact this.perm ((selS (selS (selS (selS sel0)))).trans (((selS (selS sel0)).cons _).cons _))
        have hSame : ∀ h A5 c5 A6 c6, Reads W h A5 m 3 ((l.take m).flatMap Due.enc) → Reads W h A6 m 3 ((l.take m).flatMap Due.enc) → QSpec Try.prog W 27 [.slice A5 m c5, .slice A6 m c6] h (.bool true) := fun h A5 c5 A6 c6 r1 r2 => by
          have := ref_Same W h A5 A6 c5 c6 (l.take m) (l.take m) (by rw [e]; exact r1) (by rw [e]; exact r2) (by omega)
          rw [e] at this
          exact this.cast (by simp)
        obtain ⟨n, b, hnb⟩ := nextD_is (l.drop m)
        have hN1 := fun A c => (due_Next W p A c (l.drop m) (by omega)).cast hnb
        have hN2 := fun A c F B hr => (ref_Next W q A c (l.drop m) F B hr (by omega)).cast hnb
        have hLn := fun A c => due_Len W p A c (l.drop m)
        cases b
        all_goals
          repeat' (first
            | apply aw_seq | apply aw_region | apply aw_ret | apply aw_skip | apply aw_exit | apply aw_block | apply es_nil
            | (apply es_pure hT; (iterate 4 exact rfl)) | (apply es_skip; (iterate 3 exact rfl)) | (apply es_skip0; (iterate 2 exact rfl))
            | (apply es_i64 hT; (iterate 4 exact rfl); (iterate 2 omega))
            | (apply es_idx hT; (iterate 8 exact rfl); (iterate 2 omega); exact hA)
            | ((first | (apply es_load; (iterate 5 exact rfl)) | (apply es_loadL; (iterate 5 exact rfl); first | exact fun _ h => h | (first | exact keep1 mem0 | exact keep1 mem1 | exact keep1 mem2 | exact keep1 mem3 | exact keep1 mem4 | exact keep1 mem5))); first | exact ld_fld hT rfl rfl (hr0.mono (by simp)) Act11.enc_len (adr_add _ _ _) hx2 (f := 0) (by decide) rfl | exact ld_sub hT rfl rfl (hr0.mono (by simp)) Act11.enc_len (adr_add _ _ _) hx2 (f := 1) (vs := x.due.enc) (Nat.le_of_ble_eq_true rfl) rfl rfl)
            | (apply es_alloc hT; (iterate 5 exact rfl); intro g6)
            | (apply es_store hT; (iterate 6 exact rfl); exact sel0; (iterate 3 exact rfl); exact Nat.le_of_ble_eq_true rfl)
            | (apply aw_treeH [.blk g6 39 x.due.enc] [] [23, 28] (.step 0 <| .step 1 <| .step 2 <| .step 4 <| .step 5 <| .step 6 <| .step 3 <| .step 7 <| .step 8 <| .step 9 <| .nil) hmix; decide +kernel) | apply ep_nil | apply ep_alt | (apply ep_step; exact rfl)
            | (apply aw_draw [21] [] hmix; decide +kernel)
            | (apply es_callG (hs := (hT1 _)); (iterate 7 exact rfl); (rintro _ _ ⟨A5, c5, A3, c3, rfl, rfl, hf5⟩; refine ⟨by (first | exact keep1 mem0 | exact keep1 mem1 | exact keep1 mem2 | exact keep1 mem3 | exact keep1 mem4 | exact keep1 mem5), ?_⟩))
            | (apply es_callG (hs := (hT2 _ _ _ _ _)); (iterate 7 exact rfl); (rintro _ _ ⟨A6, c6, A4, c4, B4, rfl, rfl, hr4, hR6⟩; refine ⟨by (first | exact keep1 mem0 | exact keep1 mem1 | exact keep1 mem2 | exact keep1 mem3 | exact keep1 mem4 | exact keep1 mem5), ?_⟩))
            | (apply es_callQ (hs := (hSame _ _ _ _ _ (by exact hf5.reads mem1) (by refine hR6.mono ?_; exact fun _ h => List.mem_cons_of_mem _ (List.mem_append_right _ h)))); (iterate 7 exact rfl))
            | (apply es_callQ (hs := ((hN1 A3 c3).mono (by intro c hc; simp only [dueRow, refRow, List.mem_cons, List.not_mem_nil, or_false, List.cons_append, List.nil_append] at hc ⊢; rcases hc with rfl | rfl <;> simp))); (iterate 7 exact rfl))
            | (apply es_callQ (hs := ((hN2 A4 c4 _ _ hr4))); (iterate 7 exact rfl))
            | (apply es_callQ (hs := ((hLn A3 c3).mono (by intro c hc; simp only [dueRow, refRow, List.mem_cons, List.not_mem_nil, or_false, List.cons_append, List.nil_append] at hc ⊢; rcases hc with rfl | rfl <;> simp))); (iterate 7 exact rfl))
            | ((first | (apply es_load; (iterate 5 exact rfl)) | (apply es_loadL; (iterate 5 exact rfl); first | exact fun _ h => h | (first | exact keep1 mem0 | exact keep1 mem1 | exact keep1 mem2 | exact keep1 mem3 | exact keep1 mem4 | exact keep1 mem5))); first | exact ld_blk hT rfl rfl mem0 rfl rfl | exact ld_all hT rfl rfl mem0 rfl)
            | ((first | (apply es_load; (iterate 5 exact rfl)) | (apply es_loadL; (iterate 5 exact rfl); first | exact fun _ h => h | (first | exact keep1 mem0 | exact keep1 mem1 | exact keep1 mem2 | exact keep1 mem3 | exact keep1 mem4 | exact keep1 mem5))); first | exact ld_blk hT rfl rfl mem1 rfl rfl | exact ld_all hT rfl rfl mem1 rfl)
            | ((first | (apply es_load; (iterate 5 exact rfl)) | (apply es_loadL; (iterate 5 exact rfl); first | exact fun _ h => h | (first | exact keep1 mem0 | exact keep1 mem1 | exact keep1 mem2 | exact keep1 mem3 | exact keep1 mem4 | exact keep1 mem5))); first | exact ld_blk hT rfl rfl mem2 rfl rfl | exact ld_all hT rfl rfl mem2 rfl)
            | ((first | (apply es_load; (iterate 5 exact rfl)) | (apply es_loadL; (iterate 5 exact rfl); first | exact fun _ h => h | (first | exact keep1 mem0 | exact keep1 mem1 | exact keep1 mem2 | exact keep1 mem3 | exact keep1 mem4 | exact keep1 mem5))); first | exact ld_blk hT rfl rfl mem0 rfl rfl | exact ld_all hT rfl rfl mem0 rfl)
            | ((first | (apply es_load; (iterate 5 exact rfl)) | (apply es_loadL; (iterate 5 exact rfl); first | exact fun _ h => h | (first | exact keep1 mem0 | exact keep1 mem1 | exact keep1 mem2 | exact keep1 mem3 | exact keep1 mem4 | exact keep1 mem5))); first | exact ld_blk hT rfl rfl (List.mem_cons_of_mem _ mem0) rfl rfl | exact ld_all hT rfl rfl (List.mem_cons_of_mem _ mem0) rfl)
            | ((first | (apply es_load; (iterate 5 exact rfl)) | (apply es_loadL; (iterate 5 exact rfl); first | exact fun _ h => h | (first | exact keep1 mem0 | exact keep1 mem1 | exact keep1 mem2 | exact keep1 mem3 | exact keep1 mem4 | exact keep1 mem5))); first | exact ld_blk hT rfl rfl (List.mem_cons_of_mem _ (List.mem_cons_of_mem _ mem0)) rfl rfl | exact ld_all hT rfl rfl (List.mem_cons_of_mem _ (List.mem_cons_of_mem _ mem0)) rfl)
            | ((first | (apply es_load; (iterate 5 exact rfl)) | (apply es_loadL; (iterate 5 exact rfl); first | exact fun _ h => h | (first | exact keep1 mem0 | exact keep1 mem1 | exact keep1 mem2 | exact keep1 mem3 | exact keep1 mem4 | exact keep1 mem5))); first | exact ld_blk hT rfl rfl mem1 rfl rfl | exact ld_all hT rfl rfl mem1 rfl)
            | ((first | (apply es_load; (iterate 5 exact rfl)) | (apply es_loadL; (iterate 5 exact rfl); first | exact fun _ h => h | (first | exact keep1 mem0 | exact keep1 mem1 | exact keep1 mem2 | exact keep1 mem3 | exact keep1 mem4 | exact keep1 mem5))); first | exact ld_blk hT rfl rfl (List.mem_cons_of_mem _ mem1) rfl rfl | exact ld_all hT rfl rfl (List.mem_cons_of_mem _ mem1) rfl)
            | ((first | (apply es_load; (iterate 5 exact rfl)) | (apply es_loadL; (iterate 5 exact rfl); first | exact fun _ h => h | (first | exact keep1 mem0 | exact keep1 mem1 | exact keep1 mem2 | exact keep1 mem3 | exact keep1 mem4 | exact keep1 mem5))); first | exact ld_blk hT rfl rfl (List.mem_cons_of_mem _ (List.mem_cons_of_mem _ mem1)) rfl rfl | exact ld_all hT rfl rfl (List.mem_cons_of_mem _ (List.mem_cons_of_mem _ mem1)) rfl)
            | ((first | (apply es_load; (iterate 5 exact rfl)) | (apply es_loadL; (iterate 5 exact rfl); first | exact fun _ h => h | (first | exact keep1 mem0 | exact keep1 mem1 | exact keep1 mem2 | exact keep1 mem3 | exact keep1 mem4 | exact keep1 mem5))); first | exact ld_blk hT rfl rfl mem2 rfl rfl | exact ld_all hT rfl rfl mem2 rfl)
            | ((first | (apply es_load; (iterate 5 exact rfl)) | (apply es_loadL; (iterate 5 exact rfl); first | exact fun _ h => h | (first | exact keep1 mem0 | exact keep1 mem1 | exact keep1 mem2 | exact keep1 mem3 | exact keep1 mem4 | exact keep1 mem5))); first | exact ld_blk hT rfl rfl (List.mem_cons_of_mem _ mem2) rfl rfl | exact ld_all hT rfl rfl (List.mem_cons_of_mem _ mem2) rfl)
            | ((first | (apply es_load; (iterate 5 exact rfl)) | (apply es_loadL; (iterate 5 exact rfl); first | exact fun _ h => h | (first | exact keep1 mem0 | exact keep1 mem1 | exact keep1 mem2 | exact keep1 mem3 | exact keep1 mem4 | exact keep1 mem5))); first | exact ld_blk hT rfl rfl (List.mem_cons_of_mem _ (List.mem_cons_of_mem _ mem2)) rfl rfl | exact ld_all hT rfl rfl (List.mem_cons_of_mem _ (List.mem_cons_of_mem _ mem2)) rfl)
            | (apply es_box; (iterate 5 exact rfl); intro _) | (apply es_alloc hT; (iterate 5 exact rfl); intro _)
            | (apply aw_condT; (iterate 2 exact rfl)) | (apply aw_condF; (iterate 2 exact rfl))
            | (apply es_case; exact rfl; all_goals intro hb; all_goals (try simp only [hb]); all_goals (first | replace hb := of_decide_eq_true hb | replace hb := of_decide_eq_false hb | replace hb := bne_t hb | replace hb := bne_f hb | skip); all_goals (try (exfalso; omega)))
            | (apply aw_cond; exact rfl; all_goals intro hb; all_goals (try simp only [hb]); all_goals (first | replace hb := of_decide_eq_true hb | replace hb := of_decide_eq_false hb | replace hb := bne_t hb | replace hb := bne_f hb | skip); all_goals (try (exfalso; omega))))
        all_goals exact loopq_end (k + 1, (l.drop m), A3, c3, A4, c4, B4) (by dsimp only; omega) ⟨by dsimp only; omega, hrow.sub (List.drop_sublist _ _), by dsimp only; omega, hr4⟩ ⟨rfl, rfl, rfl, rfl, trivial⟩ (by apply dt_cons; (first | exact sel0 | exact sel1 | exact selS sel1 | exact selS (selS sel1) | exact selS (selS (selS sel1)) | exact selS (selS (selS (selS sel1))) | exact selS (selS (selS (selS (selS sel1)))) | exact selS (selS (selS (selS (selS (selS sel1)))))); apply dt_cons; (first | exact sel0 | exact sel1 | exact selS sel1 | exact selS (selS sel1) | exact selS (selS (selS sel1)) | exact selS (selS (selS (selS sel1))) | exact selS (selS (selS (selS (selS sel1)))) | exact selS (selS (selS (selS (selS (selS sel1)))))); apply dt_cons; (first | exact sel0 | exact sel1 | exact selS sel1 | exact selS (selS sel1) | exact selS (selS (selS sel1)) | exact selS (selS (selS (selS sel1))) | exact selS (selS (selS (selS (selS sel1)))) | exact selS (selS (selS (selS (selS (selS sel1)))))); (repeat (first | exact dt_end | apply dt_skip)))
  · obtain rfl : k = ls.length := by omega
    have hd1 : decide ((ls.length : Int) < (ls.length : Int)) = false := by simp
    have hkn := due_known W
    repeat' (first
      | apply aw_seq | apply aw_region | apply aw_ret | apply aw_skip | apply aw_exit | apply aw_block | apply es_nil
      | (apply es_pure hT; (iterate 4 exact rfl)) | (apply es_skip; (iterate 3 exact rfl)) | (apply es_skip0; (iterate 2 exact rfl))
      | (apply es_i64 hT; (iterate 4 exact rfl); (iterate 2 omega))
      | (apply aw_draw [] [] hmix; decide +kernel)
      | (apply es_callQ (hs := (hkn.mono (by simp))); (iterate 7 exact rfl))
      | (apply es_load; (iterate 5 exact rfl); first | exact ld_blk hT rfl rfl mem0 rfl rfl | exact ld_all hT rfl rfl mem0 rfl)
      | (apply es_load; (iterate 5 exact rfl); first | exact ld_blk hT rfl rfl mem1 rfl rfl | exact ld_all hT rfl rfl mem1 rfl)
      | (apply es_load; (iterate 5 exact rfl); first | exact ld_blk hT rfl rfl mem2 rfl rfl | exact ld_all hT rfl rfl mem2 rfl)
      | (apply es_box; (iterate 5 exact rfl); intro _) | (apply es_alloc hT; (iterate 5 exact rfl); intro _)
      | (apply aw_condT; (iterate 2 exact rfl)) | (apply aw_condF; (iterate 2 exact rfl))
      | (apply es_case; exact rfl; all_goals intro hb; all_goals (try simp only [hb]); all_goals (first | replace hb := of_decide_eq_true hb | replace hb := of_decide_eq_false hb | replace hb := bne_t hb | replace hb := bne_f hb | skip); all_goals (try (exfalso; omega)))
      | (apply aw_cond; exact rfl; all_goals intro hb; all_goals (try simp only [hb]); all_goals (first | replace hb := of_decide_eq_true hb | replace hb := of_decide_eq_false hb | replace hb := bne_t hb | replace hb := bne_f hb | skip); all_goals (try (exfalso; omega))))
    apply ret1; exact rfl; exact rfl
end Go.Proofs.Ytmoglacdddinjaa
