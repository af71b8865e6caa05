/- slices.DeleteFunc at the element type Quote. Conditions stand in the statement. -/
import Derived.Test.YtmoglacdddinjaaLibQuote
import Derived.Test.YtmoglacdddinjaaSlH
set_option linter.unusedSimpArgs false
set_option linter.unusedVariables false
namespace Go.Proofs.Ytmoglacdddinjaa
open Go Go.Sl
attribute [local irreducible] AW ES Ld RetQ
set_option maxRecDepth 100000

theorem deleteFuncQuote (W : World) (F : List Chunk) (A : Option Addr) (c : Nat) (l : List Quote) (fn : FuncId) (cap : List Value) (p : Quote → Bool)
    (hf : ∀ x ∈ l, QSpec Try.prog W fn ([.agg x.enc.toArray] ++ cap) F (.bool (p x))) (hb : l.length ≤ 1000000) :
    FSpec Try.prog W 72 [.slice A l.length c, .func (.func fn) #[] cap.toArray] (.own A l.length c 25 6 (l.flatMap Quote.enc) :: F)
      (fun v h' => v = .slice A (l.filter fun x => !p x).length c ∧ h' = .own A (l.filter fun x => !p x).length c 25 6 ((l.filter fun x => !p x).flatMap Quote.enc) :: F) := by
  have hz : (ti25.zero.cells.toList).length = 6 := rfl
  refine FSpec.conv (R := fun v h' => v = .slice A (l.filter fun x => !p x).length c ∧ (h' = .own A (l.filter fun x => !p x).length c 25 6 ((l.filter fun x => !p x).flatMap Quote.enc) :: F ∨
    ∃ (g i : Nat) (m : List Quote) (cur : List Value), A = some ⟨g, 0, none⟩ ∧ i = (l.filter fun x => !p x).length ∧ m.take i = (l.filter fun x => !p x) ∧ m.length = l.length ∧ i ≤ l.length ∧ cur.length = c * 6 ∧ cur.take (l.length * 6) = m.flatMap Quote.enc ∧ l.length ≤ c ∧ c ≤ 9223372036854775807 ∧ (∀ v ∈ m.flatMap Quote.enc, v.oneCell' = true) ∧
      h' = .blk g 25 (lay cur (i * 6) (repZ ti25.zero.cells.toList (l.length - i))) :: F)) ?_ ?_
  rotate_left
  · rintro v h' ⟨hv, h | ⟨g, i, m, cur, rfl, hi, htm, hml, hil, hcl, htk, hnc, hcc, hone, rfl⟩⟩ w hw
    · exact ⟨h', hw, hv, h⟩
    · have hzl : (repZ ti25.zero.cells.toList (l.length - i)).length = (l.length - i) * 6 := by rw [repZ_len, hz]
      have hcut : (lay cur (i * 6) (repZ ti25.zero.cells.toList (l.length - i))).take (i * 6) = (l.filter fun x => !p x).flatMap Quote.enc := by
        rw [take_lay_off (by omega), ← htm, ← flat_take Quote.enc_len, ← htk, List.take_take, Nat.min_eq_left (by omega)]
      refine ⟨_, hw.shut_ (n := i) (c := c) (k := 6) (by rw [lay_len (by omega)]; exact hcl) hcut (by rw [flat_len Quote.enc_len, ← hi]) (by omega) hcc ?_, hv, by rw [← hi]⟩
      intro u hu
      rw [← htm, ← flat_take Quote.enc_len] at hu
      exact hone u (List.mem_of_mem_take hu)
  refine spec_body Try.func72 rfl rfl Try.results72 Try.ntmps72 rfl rfl ?_
  refine aw_fact mem0 (fun hl hnc hcc hsome hnone hone => ?_)
  have hr : Reads W (.own A l.length c 25 6 (l.flatMap Quote.enc) :: F) A l.length 6 (l.flatMap Quote.enc) := Reads.own mem0 hl hone
  have hix := indexFuncQuote W _ A l.length c l rfl hr fn cap p (fun x hx => (hf x hx).mono (fun c hc => .tail _ hc)) (by omega)
  have hge := idxOf_ge (p := p) (l := l)
  have hlt0 := idxOf_lt (p := p) (l := l)
  by_cases hi : idxOf p l = -1
  · have hd : (idxOf p l == -1) = true := by simp [hi]
    have hfl : (l.filter fun x => !p x) = l := List.filter_eq_self.2 (fun x hx => by
      have := idxOf_neg'.1 (show idxOf p l < 0 by omega) x hx
      simp [this])
    repeat' (first
      | apply aw_seq | apply aw_region | apply aw_ret | apply aw_skip | apply aw_exit | apply aw_block | apply es_nil
      | (apply es_pure hT; (iterate 4 exact rfl)) | (apply es_skip; (iterate 3 exact rfl)) | (apply es_skip0; (iterate 2 exact rfl))
      | (apply es_i64 hT; (iterate 4 exact rfl); (iterate 2 omega))
      | (apply aw_draw [] [] hmix; decide +kernel)
      | (apply es_callQ (hs := hix); (iterate 7 exact rfl))
      | (apply es_load; (iterate 5 exact rfl); first | exact ld_blk hT rfl rfl mem0 rfl rfl | exact ld_all hT rfl rfl mem0 rfl)
      | (apply es_load; (iterate 5 exact rfl); first | exact ld_blk hT rfl rfl mem1 rfl rfl | exact ld_all hT rfl rfl mem1 rfl)
      | (apply es_load; (iterate 5 exact rfl); first | exact ld_blk hT rfl rfl mem2 rfl rfl | exact ld_all hT rfl rfl mem2 rfl)
      | (apply es_box; (iterate 5 exact rfl); intro _) | (apply es_alloc hT; (iterate 5 exact rfl); intro _)
      | (apply aw_condT; (iterate 2 exact rfl)) | (apply aw_condF; (iterate 2 exact rfl))
      | (apply es_case; exact rfl; all_goals intro hb; all_goals (try simp only [hb]); all_goals (first | replace hb := of_decide_eq_true hb | replace hb := of_decide_eq_false hb | replace hb := bne_t hb | replace hb := bne_f hb | skip); all_goals (try (exfalso; omega)))
      | (apply aw_cond; exact rfl; all_goals intro hb; all_goals (try simp only [hb]); all_goals (first | replace hb := of_decide_eq_true hb | replace hb := of_decide_eq_false hb | replace hb := bne_t hb | replace hb := bne_f hb | skip); all_goals (try (exfalso; omega))))
    apply ret1; exact rfl
    rw [hfl]
    exact ⟨rfl, .inl rfl⟩
  · have hd : (idxOf p l == -1) = false := by simpa using hi
    obtain ⟨i0, hi0⟩ : ∃ k : Nat, idxOf p l = k := ⟨(idxOf p l).toNat, by omega⟩
    obtain ⟨x0, hx0, hpx0, hbef⟩ := idxOf_first hi0
    rw [hi0] at hix hd hlt0
    obtain ⟨g, rfl⟩ := hsome (by omega)
    repeat' (first
      | apply aw_seq | apply aw_region | apply aw_ret | apply aw_skip | apply aw_exit | apply aw_block | apply es_nil
      | (apply es_pure hT; (iterate 4 exact rfl)) | (apply es_skip; (iterate 3 exact rfl)) | (apply es_skip0; (iterate 2 exact rfl))
      | (apply es_i64 hT; (iterate 4 exact rfl); (iterate 2 omega))
      | (apply aw_draw [] [] hmix; decide +kernel)
      | (apply es_callQ (hs := hix); (iterate 7 exact rfl))
      | (apply es_load; (iterate 5 exact rfl); first | exact ld_blk hT rfl rfl mem0 rfl rfl | exact ld_all hT rfl rfl mem0 rfl)
      | (apply es_load; (iterate 5 exact rfl); first | exact ld_blk hT rfl rfl mem1 rfl rfl | exact ld_all hT rfl rfl mem1 rfl)
      | (apply es_load; (iterate 5 exact rfl); first | exact ld_blk hT rfl rfl mem2 rfl rfl | exact ld_all hT rfl rfl mem2 rfl)
      | (apply es_box; (iterate 5 exact rfl); intro _) | (apply es_alloc hT; (iterate 5 exact rfl); intro _)
      | (apply aw_condT; (iterate 2 exact rfl)) | (apply aw_condF; (iterate 2 exact rfl))
      | (apply es_case; exact rfl; all_goals intro hb; all_goals (try simp only [hb]); all_goals (first | replace hb := of_decide_eq_true hb | replace hb := of_decide_eq_false hb | replace hb := bne_t hb | replace hb := bne_f hb | skip); all_goals (try (exfalso; omega)))
      | (apply aw_cond; exact rfl; all_goals intro hb; all_goals (try simp only [hb]); all_goals (first | replace hb := of_decide_eq_true hb | replace hb := of_decide_eq_false hb | replace hb := bne_t hb | replace hb := bne_f hb | skip); all_goals (try (exfalso; omega))))
    refine aw_loop (α := Nat × Nat × List Quote) (E := fun x => [(0, .slice (some ⟨g, 0, none⟩) l.length c), (1, .func (.func fn) #[] cap.toArray), (5, .int .i64 x.2.1), (6, .int .i64 x.1)]) (H := fun x => .own (some ⟨g, 0, none⟩) l.length c 25 6 (x.2.2.flatMap Quote.enc) :: F) (μ := fun x => l.length - x.1)
      (S := fun x => x.1 ≤ l.length ∧ x.2.1 < x.1 ∧ x.2.2.length = l.length ∧ x.2.2.take x.2.1 = (l.take x.1).filter (fun x => !p x) ∧ x.2.2.drop x.1 = l.drop x.1) (i0 + 1, i0, l) (J := []) ⟨by dsimp only; omega, by dsimp only; omega, rfl, by
        dsimp only
        rw [List.take_add_one, hx0, List.filter_append]
        simp only [Option.toList_some, List.filter_cons, hpx0, Bool.not_true, Bool.false_eq_true, if_false, List.filter_nil, List.append_nil]
        refine (List.filter_eq_self.2 (fun y hy => ?_)).symm
        obtain ⟨j, hj⟩ := List.getElem?_of_mem hy
        have hj2 := (List.getElem?_eq_some_iff.1 hj).1
        rw [List.getElem?_take_of_lt (by simp at hj2; omega)] at hj
        simp [hbef j y (by simp at hj2; omega) hj], rfl⟩ ⟨rfl, rfl, rfl, rfl, trivial⟩ (List.Perm.refl _) ?_
    rintro ⟨j, i, m⟩ ⟨s1, s2, s3, s4, s5⟩
    dsimp only at s1 s2 s3 s4 s5 ⊢
    refine aw_fact mem0 (fun hl2 hnc2 _ _ _ hone2 => ?_)
    have hrm : Reads W (.own (some ⟨g, 0, none⟩) l.length c 25 6 (m.flatMap Quote.enc) :: F) (some ⟨g, 0, none⟩) l.length 6 (m.flatMap Quote.enc) := Reads.own mem0 hl2 hone2
    by_cases hlt : j < l.length
    · obtain ⟨x, hx⟩ : ∃ x, l[j]? = some x := ⟨l[j]'(by omega), List.getElem?_eq_getElem (by omega)⟩
      have hxm : m[j]? = some x := by
        have : (m.drop j)[0]? = some x := by rw [s5, List.getElem?_drop]; simpa using hx
        rw [List.getElem?_drop] at this; simpa using this
      have hx2 : m[(j : Int).toNat]? = some x := by simpa using hxm
      have hd1 : decide ((j : Int) < (l.length : Int)) = true := by simp; omega
      have hfx := hf x (List.mem_of_getElem? hx)
      have hstep : (l.take (j + 1)).filter (fun x => !p x) = m.take i ++ if p x then [] else [x] := by
        rw [List.take_add_one, hx, List.filter_append, ← s4]
        cases hh : p x <;> simp [hh]
      have hd5 : m.drop (j + 1) = l.drop (j + 1) := by
        rw [← List.drop_drop (i := 1) (j := j), s5, List.drop_drop]
      obtain ⟨y, hy⟩ : ∃ y, m[i]? = some y := ⟨m[i]'(by omega), List.getElem?_eq_getElem (by omega)⟩
      cases hh : p x
      · rw [hh] at hfx hstep
        have hlay : lay (m.flatMap Quote.enc) (i * 6) x.enc = (m.set i x).flatMap Quote.enc := flat_lay Quote.enc_len (f := 0) hy (Nat.le_of_ble_eq_true rfl) (by simp [lay, Quote.enc_len])
        repeat' (first
          | apply aw_seq | apply aw_region | apply aw_ret | apply aw_skip | apply aw_exit | apply aw_block | apply es_nil
          | (apply es_pure hT; (iterate 4 exact rfl)) | (apply es_skip; (iterate 3 exact rfl)) | (apply es_skip0; (iterate 2 exact rfl))
          | (apply es_i64 hT; (iterate 4 exact rfl); (iterate 2 omega))
          | (apply aw_draw [] [] hmix; decide +kernel)
          | (apply es_idx hT; (iterate 8 exact rfl); (iterate 2 omega); exact rfl)
          | (apply es_load; (iterate 5 exact rfl); exact ld_elem hT rfl rfl hrm Quote.enc_len rfl hx2 rfl)
          | (apply es_alloc hT; (iterate 5 exact rfl); intro g7)
          | (apply es_store hT; (iterate 6 exact rfl); exact sel0; (iterate 3 exact rfl); exact Nat.le_of_ble_eq_true rfl)
          | (apply es_callQ (hs := (hfx.mono (fun c hc => .tail _ (.tail _ hc)))); (iterate 7 exact rfl))
          | (apply es_storeRow hT; (iterate 6 exact rfl); (first | exact sel0 | exact sel1 | exact selS sel1 | exact selS (selS sel1) | exact selS (selS (selS sel1)) | exact selS (selS (selS (selS sel1))) | exact selS (selS (selS (selS (selS sel1)))) | exact selS (selS (selS (selS (selS (selS sel1)))))); exact rfl; exact rfl; exact rfl; (show i * 6 + 6 ≤ l.length * 6; omega); omega)
          | (apply es_load; (iterate 5 exact rfl); first | exact ld_blk hT rfl rfl mem0 rfl rfl | exact ld_all hT rfl rfl mem0 rfl)
          | (apply es_load; (iterate 5 exact rfl); first | exact ld_blk hT rfl rfl mem1 rfl rfl | exact ld_all hT rfl rfl mem1 rfl)
          | (apply es_load; (iterate 5 exact rfl); first | exact ld_blk hT rfl rfl mem2 rfl rfl | exact ld_all hT rfl rfl mem2 rfl)
          | (apply es_box; (iterate 5 exact rfl); intro _) | (apply es_alloc hT; (iterate 5 exact rfl); intro _)
          | (apply aw_condT; (iterate 2 exact rfl)) | (apply aw_condF; (iterate 2 exact rfl))
          | (apply es_case; exact rfl; all_goals intro hb; all_goals (try simp only [hb]); all_goals (first | replace hb := of_decide_eq_true hb | replace hb := of_decide_eq_false hb | replace hb := bne_t hb | replace hb := bne_f hb | skip); all_goals (try (exfalso; omega)))
          | (apply aw_cond; exact rfl; all_goals intro hb; all_goals (try simp only [hb]); all_goals (first | replace hb := of_decide_eq_true hb | replace hb := of_decide_eq_false hb | replace hb := bne_t hb | replace hb := bne_f hb | skip); all_goals (try (exfalso; omega))))
        refine loopq_end (j + 1, i + 1, m.set i x) (by dsimp only; omega) ⟨by dsimp only; omega, by dsimp only; omega, by dsimp only; simpa using s3, ?_, ?_⟩ ⟨rfl, rfl, rfl, rfl, trivial⟩ ?_
        · dsimp only
          rw [hstep, List.take_add_one, List.getElem?_set_self (by omega), List.take_set_of_le (Nat.le_refl i)]
          simp
        · dsimp only
          rw [List.drop_set_of_lt (by omega), hd5]
        · dsimp only
          rw [← hlay]
          apply dt_cons; (first | exact sel0 | exact sel1 | exact selS sel1 | exact selS (selS sel1) | exact selS (selS (selS sel1)) | exact selS (selS (selS (selS sel1))) | exact selS (selS (selS (selS (selS sel1)))) | exact selS (selS (selS (selS (selS (selS sel1))))))
          (repeat (first | exact dt_end | apply dt_skip))
      · rw [hh] at hfx hstep
        repeat' (first
          | apply aw_seq | apply aw_region | apply aw_ret | apply aw_skip | apply aw_exit | apply aw_block | apply es_nil
          | (apply es_pure hT; (iterate 4 exact rfl)) | (apply es_skip; (iterate 3 exact rfl)) | (apply es_skip0; (iterate 2 exact rfl))
          | (apply es_i64 hT; (iterate 4 exact rfl); (iterate 2 omega))
          | (apply aw_draw [] [] hmix; decide +kernel)
          | (apply es_idx hT; (iterate 8 exact rfl); (iterate 2 omega); exact rfl)
          | (apply es_load; (iterate 5 exact rfl); exact ld_elem hT rfl rfl hrm Quote.enc_len rfl hx2 rfl)
          | (apply es_alloc hT; (iterate 5 exact rfl); intro g7)
          | (apply es_store hT; (iterate 6 exact rfl); exact sel0; (iterate 3 exact rfl); exact Nat.le_of_ble_eq_true rfl)
          | (apply es_callQ (hs := (hfx.mono (fun c hc => .tail _ (.tail _ hc)))); (iterate 7 exact rfl))
          | (apply es_load; (iterate 5 exact rfl); first | exact ld_blk hT rfl rfl mem0 rfl rfl | exact ld_all hT rfl rfl mem0 rfl)
          | (apply es_load; (iterate 5 exact rfl); first | exact ld_blk hT rfl rfl mem1 rfl rfl | exact ld_all hT rfl rfl mem1 rfl)
          | (apply es_load; (iterate 5 exact rfl); first | exact ld_blk hT rfl rfl mem2 rfl rfl | exact ld_all hT rfl rfl mem2 rfl)
          | (apply es_box; (iterate 5 exact rfl); intro _) | (apply es_alloc hT; (iterate 5 exact rfl); intro _)
          | (apply aw_condT; (iterate 2 exact rfl)) | (apply aw_condF; (iterate 2 exact rfl))
          | (apply es_case; exact rfl; all_goals intro hb; all_goals (try simp only [hb]); all_goals (first | replace hb := of_decide_eq_true hb | replace hb := of_decide_eq_false hb | replace hb := bne_t hb | replace hb := bne_f hb | skip); all_goals (try (exfalso; omega)))
          | (apply aw_cond; exact rfl; all_goals intro hb; all_goals (try simp only [hb]); all_goals (first | replace hb := of_decide_eq_true hb | replace hb := of_decide_eq_false hb | replace hb := bne_t hb | replace hb := bne_f hb | skip); all_goals (try (exfalso; omega))))
        refine loopq_end (j + 1, i, m) (by dsimp only; omega) ⟨by dsimp only; omega, by dsimp only; omega, s3, by dsimp only; rw [hstep]; simp, hd5⟩ ⟨rfl, rfl, rfl, rfl, trivial⟩ ?_
        apply dt_cons; (first | exact sel0 | exact sel1 | exact selS sel1 | exact selS (selS sel1) | exact selS (selS (selS sel1)) | exact selS (selS (selS (selS sel1))) | exact selS (selS (selS (selS (selS sel1)))) | exact selS (selS (selS (selS (selS (selS sel1))))))
        (repeat (first | exact dt_end | apply dt_skip))
    · obtain rfl : j = l.length := by omega
      rw [List.take_length] at s4
      have hd1 : decide ((l.length : Int) < (l.length : Int)) = false := by simp
      have hil : i = (l.filter fun x => !p x).length := by rw [← s4]; simp; omega
      refine aw_open sel0 (fun cur hcl htk _ _ _ _ => ?_)
      repeat' (first
        | apply aw_seq | apply aw_region | apply aw_ret | apply aw_skip | apply aw_exit | apply aw_block | apply es_nil
        | (apply es_pure hT; (iterate 4 exact rfl)) | (apply es_skip; (iterate 3 exact rfl)) | (apply es_skip0; (iterate 2 exact rfl))
        | (apply es_i64 hT; (iterate 4 exact rfl); (iterate 2 omega))
        | (apply aw_draw [] [] hmix; decide +kernel)
        | (apply es_sliceTo hT; (iterate 8 exact rfl); (iterate 2 omega))
        | (apply es_sliceFrom hT; (iterate 8 exact rfl); (iterate 3 omega); exact cutA_ne (by omega))
        | (apply es_clear hT (k := 6); (iterate 9 exact rfl); exact sel0; exact rfl; (show i * 6 + (l.length - i) * 6 ≤ cur.length; omega))
        | (apply es_load; (iterate 5 exact rfl); first | exact ld_blk hT rfl rfl mem0 rfl rfl | exact ld_all hT rfl rfl mem0 rfl)
        | (apply es_load; (iterate 5 exact rfl); first | exact ld_blk hT rfl rfl mem1 rfl rfl | exact ld_all hT rfl rfl mem1 rfl)
        | (apply es_load; (iterate 5 exact rfl); first | exact ld_blk hT rfl rfl mem2 rfl rfl | exact ld_all hT rfl rfl mem2 rfl)
        | (apply es_box; (iterate 5 exact rfl); intro _) | (apply es_alloc hT; (iterate 5 exact rfl); intro _)
        | (apply aw_condT; (iterate 2 exact rfl)) | (apply aw_condF; (iterate 2 exact rfl))
        | (apply es_case; exact rfl; all_goals intro hb; all_goals (try simp only [hb]); all_goals (first | replace hb := of_decide_eq_true hb | replace hb := of_decide_eq_false hb | replace hb := bne_t hb | replace hb := bne_f hb | skip); all_goals (try (exfalso; omega)))
        | (apply aw_cond; exact rfl; all_goals intro hb; all_goals (try simp only [hb]); all_goals (first | replace hb := of_decide_eq_true hb | replace hb := of_decide_eq_false hb | replace hb := bne_t hb | replace hb := bne_f hb | skip); all_goals (try (exfalso; omega))))
      apply ret1; exact rfl
      exact ⟨by rw [← hil]; simp, .inr ⟨g, i, m, cur, rfl, hil, s4, s3, by omega, hcl, htk, hnc, hcc, hone2, rfl⟩⟩
end Go.Proofs.Ytmoglacdddinjaa
