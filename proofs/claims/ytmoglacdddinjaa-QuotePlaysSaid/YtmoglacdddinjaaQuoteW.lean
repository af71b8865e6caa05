/- What the statements QuoteLives and QuoteWays answer. Conditions stand in each statement. -/
import Derived.Test.YtmoglacdddinjaaQuote3
set_option linter.unusedSimpArgs false
set_option linter.unusedVariables false
namespace Go.Proofs.Ytmoglacdddinjaa
open Go Go.Sl
attribute [local irreducible] AW ES EP Ld RetQ
set_option maxRecDepth 100000

theorem sOKQuote : structOK Try.prog 25 := ⟨by kernel_rfl, by kernel_rfl⟩

/-- .. what is answered behind the table -/
theorem quo_LiveB (W : World) (p : Nat) (l : List Quote) (ask tick : Int) (m : List Quote) (hb : l.length ≤ 1000000) (hm : l.filter (isLive ask tick) = m) (F : List Chunk) (A : Option Addr) (c : Nat) :
    FSpec Try.prog W 16 [.pointer (some ⟨p, 0, none⟩), .int .i64 ask, .int .i64 tick] (quoTab p A c l F)
      (fun v h' => ∃ A' c', v = .slice A' m.length c' ∧ h' = quoTab p A c l (.own A' m.length c' 25 6 (m.flatMap Quote.enc) :: F) ∧ OwnF A' m.length c' 6 (m.flatMap Quote.enc)) :=
  (quo_Live W F p A c l ask tick hb).conv (by
    rw [hm]
    rintro v h' ⟨A', c', rfl, rfl, hf⟩ w hw
    exact ⟨_, hw.perm (selS (selS sel0)).symm, A', c', rfl, rfl, hf⟩)
theorem quo_OfB (W : World) (p : Nat) (l : List Quote) (dealer : Int) (m : List Quote) (hb : l.length ≤ 1000000) (hm : l.filter (isOf dealer) = m) (F : List Chunk) (A : Option Addr) (c : Nat) :
    FSpec Try.prog W 17 [.pointer (some ⟨p, 0, none⟩), .int .i64 dealer] (quoTab p A c l F)
      (fun v h' => ∃ A' c', v = .slice A' m.length c' ∧ h' = quoTab p A c l (.own A' m.length c' 25 6 (m.flatMap Quote.enc) :: F) ∧ OwnF A' m.length c' 6 (m.flatMap Quote.enc)) :=
  (quo_Of W F p A c l dealer hb).conv (by
    rw [hm]
    rintro v h' ⟨A', c', rfl, rfl, hf⟩ w hw
    exact ⟨_, hw.perm (selS (selS sel0)).symm, A', c', rfl, rfl, hf⟩)
theorem quo_ClearB (W : World) (p : Nat) (l : List Quote) (ask : Int) (m r : List Quote) (hb : l.length ≤ 1000000) (hm : l.filter (isAsk ask) = m) (hr : (l.filter fun x => !isAsk ask x) = r) (F : List Chunk) (A : Option Addr) (c : Nat) :
    FSpec Try.prog W 33 [.pointer (some ⟨p, 0, none⟩), .int .i64 ask] (quoTab p A c l F)
      (fun v h' => ∃ A' c', v = .slice A' m.length c' ∧ h' = quoTab p A c r (.own A' m.length c' 2 1 (m.flatMap idC) :: F) ∧ OwnF A' m.length c' 1 (m.flatMap idC)) :=
  (quo_Clear W F p A c l ask hb).conv (by
    rw [hm, hr]
    rintro v h' ⟨A', c', rfl, rfl, hf⟩ w hw
    exact ⟨_, hw.perm (selS (selS sel0)).symm, A', c', rfl, rfl, hf⟩)
theorem quo_PutB (W : World) (p : Nat) (l : List Quote) (q : Quote) (v0 : Value) (m : List Quote) (hb : l.length ≤ 1000000) (hup : upQ l) (hv : putV q l = v0) (hm : putQ q l = m) (F : List Chunk) (A : Option Addr) (c : Nat) :
    FSpec Try.prog W 15 [.pointer (some ⟨p, 0, none⟩), .agg q.enc.toArray] (quoTab p A c l F) (fun v h' => v = v0 ∧ ∃ A' c', h' = quoTab p A' c' m F) := by
  subst hv hm
  exact quo_Put W F p A c l q hb hup
/-- .. with a chunk ahead -/
theorem quo_PutX (W : World) (p : Nat) (l : List Quote) (q : Quote) (v0 : Value) (m : List Quote) (hb : l.length ≤ 1000000) (hup : upQ l) (hv : putV q l = v0) (hm : putQ q l = m) (X : Chunk) (F : List Chunk) (A : Option Addr) (c : Nat) :
    FSpec Try.prog W 15 [.pointer (some ⟨p, 0, none⟩), .agg q.enc.toArray] (X :: quoTab p A c l F) (fun v h' => v = v0 ∧ ∃ A' c', h' = quoTab p A' c' m (X :: F)) :=
  (quo_PutB W p l q v0 m hb hup hv hm (X :: F) A c).perm (selS (selS sel0)).symm
theorem quo_KillB (W : World) (p : Nat) (l : List Quote) (id : Int) (b : Bool) (m : List Quote) (hb : l.length ≤ 1000000) (hup : upQ l) (hv : (getQ id l).any (·.live) = b) (hm : killQ id l = m) (F : List Chunk) (A : Option Addr) (c : Nat) :
    FSpec Try.prog W 32 [.pointer (some ⟨p, 0, none⟩), .int .i64 id] (quoTab p A c l F) (fun v h' => v = .bool b ∧ h' = quoTab p A c m F) := by
  subst hv hm
  exact quo_Kill W F p A c l id hb hup
theorem quo_PullB (W : World) (p : Nat) (l : List Quote) (id dealer : Int) (e : Int) (m : List Quote) (hb : l.length ≤ 1000000) (hup : upQ l) (hv : pullE id dealer l = e) (hm : pullQ id dealer l = m) (F : List Chunk) (A : Option Addr) (c : Nat) :
    FSpec Try.prog W 31 [.pointer (some ⟨p, 0, none⟩), .int .i64 id, .int .i64 dealer] (quoTab p A c l F) (fun v h' => v = .int .i64 e ∧ h' = quoTab p A c m F) := by
  subst hv hm
  exact quo_Pull W F p A c l id dealer hb hup

def kq1 : Quote := ⟨1, 1, 2, 5, 9, true⟩
def kq2 : Quote := ⟨2, 1, 2, 5, 9, true⟩
def kq1d : Quote := ⟨1, 1, 2, 5, 9, false⟩
theorem quo_known (W : World) : QSpec Try.prog W 18 [] [] (.bool true) := by
  refine QSpec.ofD (fun h' hs => ?_)
  refine spec_body Try.func18 rfl rfl Try.results18 Try.ntmps18 rfl rfl ?_
  have hput1 := fun p => quo_PutX W p [] kq1 [kq1] (by simp) (by simp [upQ]) (v0 := .tuple #[.int .i64 0, .int .i64 0]) rfl rfl
  have hput2 := fun p => quo_PutX W p [kq1] kq2 [kq1d, kq2] (by simp) (by simp [upQ]) (v0 := .tuple #[.int .i64 1, .int .i64 0]) rfl rfl
  have hlive1 := fun p => quo_LiveB W p [kq1d, kq2] 1 8 [kq2] (by simp) rfl
  have hlive2 : ∀ p F A c, FSpec Try.prog W 16 [.pointer (some ⟨p, 0, none⟩), .int .i64 1, .int .i64 9] (quoTab p A c [kq1d, kq2] F) (fun v h' => ∃ A' c', v = .slice A' 0 c' ∧ h' = .own A' 0 c' 25 6 [] :: quoTab p A c [kq1d, kq2] F ∧ OwnF A' 0 c' 6 []) := fun p F A c => quo_Live W F p A c [kq1d, kq2] 1 9 (by simp)
  repeat' (first
    | apply aw_seq | apply aw_region | apply aw_ret | apply aw_skip | apply aw_exit | apply aw_block | apply es_nil
    | (apply es_pure hT; (iterate 4 exact rfl)) | (apply es_skip; (iterate 3 exact rfl)) | (apply es_skip0; (iterate 2 exact rfl))
    | (apply es_i64 hT; (iterate 4 exact rfl); (iterate 2 omega))
    | (apply es_call (hs := (quo_New W _)); (iterate 7 exact rfl); rintro _ _ ⟨p, A, c, rfl, rfl⟩)
    | (apply es_build hT; (iterate 4 exact rfl))
    | (apply aw_draw [] [16] hmix; decide +kernel)
    | (apply es_call (hs := (hput1 _ _ _ _ _)); (iterate 7 exact rfl); rintro _ _ ⟨rfl, A1, c1, rfl⟩)
    | (apply es_store hT; (iterate 6 exact rfl); (first | exact sel0 | exact sel1 | exact selS sel1 | exact selS (selS sel1) | exact selS (selS (selS sel1)) | exact selS (selS (selS (selS sel1))) | exact selS (selS (selS (selS (selS sel1)))) | exact selS (selS (selS (selS (selS (selS sel1)))))); (iterate 3 exact rfl); exact Nat.le_of_ble_eq_true rfl)
    | (apply es_call (hs := (hput2 _ _ _ _ _)); (iterate 7 exact rfl); rintro _ _ ⟨rfl, A2, c2, rfl⟩)
    | (apply es_call (hs := (hlive1 _ _ _ _)); (iterate 7 exact rfl); rintro _ _ ⟨A3, c3, rfl, rfl, hf3⟩)
    | (apply es_callA (hs := (hlive2 _ _ _ _)); (iterate 7 exact rfl); (rintro _ _ ⟨A4, c4, rfl, rfl, hf4⟩; refine ⟨[_], rfl, ?_⟩))
    | (apply es_idx hT; (iterate 8 exact rfl); omega; (show (0 : Int) < 1; omega); exact hf3.some_ (by simp))
    | (apply es_load; (iterate 5 exact rfl); exact ld_elem hT rfl rfl (hf3.reads mem2) Quote.enc_len rfl (rfl : ([kq2] : List Quote)[0]? = some kq2) rfl)
    | (apply es_eqS hT; (iterate 5 exact rfl); exact rfl; exact sOKQuote)
    | (apply es_load; (iterate 5 exact rfl); first | exact ld_blk hT rfl rfl mem0 rfl rfl | exact ld_all hT rfl rfl mem0 rfl)
    | (apply es_load; (iterate 5 exact rfl); first | exact ld_blk hT rfl rfl mem1 rfl rfl | exact ld_all hT rfl rfl mem1 rfl)
    | (apply es_load; (iterate 5 exact rfl); first | exact ld_blk hT rfl rfl mem2 rfl rfl | exact ld_all hT rfl rfl mem2 rfl)
    | (apply es_load; (iterate 5 exact rfl); first | exact ld_blk hT rfl rfl mem2 rfl rfl | exact ld_all hT rfl rfl mem2 rfl)
    | (apply es_load; (iterate 5 exact rfl); first | exact ld_blk hT rfl rfl (List.mem_cons_of_mem _ mem2) rfl rfl | exact ld_all hT rfl rfl (List.mem_cons_of_mem _ mem2) rfl)
    | (apply es_load; (iterate 5 exact rfl); first | exact ld_blk hT rfl rfl mem3 rfl rfl | exact ld_all hT rfl rfl mem3 rfl)
    | (apply es_load; (iterate 5 exact rfl); first | exact ld_blk hT rfl rfl (List.mem_cons_of_mem _ mem3) rfl rfl | exact ld_all hT rfl rfl (List.mem_cons_of_mem _ mem3) rfl)
    | (apply es_box; (iterate 5 exact rfl); intro _) | (apply es_alloc hT; (iterate 5 exact rfl); intro _)
    | (apply aw_condT; (iterate 2 exact rfl)) | (apply aw_condF; (iterate 2 exact rfl))
    | (apply es_case; exact rfl; all_goals intro hb; all_goals (try simp only [hb]); all_goals (first | replace hb := of_decide_eq_true hb | replace hb := of_decide_eq_false hb | replace hb := bne_t hb | replace hb := bne_f hb | skip); all_goals (try (exfalso; omega)))
    | (apply aw_cond; exact rfl; all_goals intro hb; all_goals (try simp only [hb]); all_goals (first | replace hb := of_decide_eq_true hb | replace hb := of_decide_eq_false hb | replace hb := bne_t hb | replace hb := bne_f hb | skip); all_goals (try (exfalso; omega))))
  apply ret1; exact rfl
  exact ⟨rfl, by (repeat (first | exact dt_end | apply dt_skip))⟩

theorem quo_Lives (W : World) (e tick : Int) : FSpec Try.prog W 3 [.int .i64 e, .int .i64 tick] [] (fun v _ => v = .bool true) := by
  refine spec_body Try.func3 rfl rfl Try.results3 Try.ntmps3 rfl rfl ?_
  generalize hq : (⟨3, 2, 1, 9, e, true⟩ : Quote) = q0
  have hput := fun p => quo_PutX W p [] q0 [q0] (by simp) (by simp [upQ]) (v0 := .tuple #[.int .i64 0, .int .i64 0]) (by subst hq; rfl) (by subst hq; rfl)
  have hlive1 := fun p => quo_LiveB W p [q0] 1 tick [] (by simp) (by subst hq; rfl)
  have hof := fun p => quo_OfB W p [q0] 1 [q0] (by simp) (by subst hq; rfl)
  have hk := quo_known W
  subst hq
  by_cases hlt : e > tick
  · have hlive := fun p => quo_LiveB W p [⟨3, 2, 1, 9, e, true⟩] 2 tick [⟨3, 2, 1, 9, e, true⟩] (by simp) (by simp [isLive]; omega)
    have hd : decide (e > tick) = true := by simpa using hlt
    repeat' (first
      | apply aw_seq | apply aw_region | apply aw_ret | apply aw_skip | apply aw_exit | apply aw_block | apply es_nil
      | (apply es_pure hT; (iterate 4 exact rfl)) | (apply es_skip; (iterate 3 exact rfl)) | (apply es_skip0; (iterate 2 exact rfl))
      | (apply es_i64 hT; (iterate 4 exact rfl); (iterate 2 omega))
      | (apply aw_draw [] [] hmix; decide +kernel)
      | (apply es_call (hs := (quo_New W _)); (iterate 7 exact rfl); rintro _ _ ⟨p, A, c, rfl, rfl⟩)
      | (apply es_build hT; (iterate 4 exact rfl))
      | (apply es_call (hs := (hput _ _ _ _ _)); (iterate 7 exact rfl); rintro _ _ ⟨rfl, A1, c1, rfl⟩)
      | (apply es_store hT; (iterate 6 exact rfl); (first | exact sel0 | exact sel1 | exact selS sel1 | exact selS (selS sel1) | exact selS (selS (selS sel1)) | exact selS (selS (selS (selS sel1))) | exact selS (selS (selS (selS (selS sel1)))) | exact selS (selS (selS (selS (selS (selS sel1)))))); (iterate 3 exact rfl); exact Nat.le_of_ble_eq_true rfl)
      | (apply es_call (hs := (hlive _ _ _ _)); (iterate 7 exact rfl); rintro _ _ ⟨A3, c3, rfl, rfl, hf3⟩)
      | (apply es_call (hs := (hlive1 _ _ _ _)); (iterate 7 exact rfl); rintro _ _ ⟨A4, c4, rfl, rfl, hf4⟩)
      | (apply es_call (hs := (hof _ _ _ _)); (iterate 7 exact rfl); rintro _ _ ⟨A5, c5, rfl, rfl, hf5⟩)
      | (apply es_callQ (hs := (hk.mono (by simp))); (iterate 7 exact rfl))
      | (apply es_load; (iterate 5 exact rfl); first | exact ld_blk hT rfl rfl mem0 rfl rfl | exact ld_all hT rfl rfl mem0 rfl)
      | (apply es_load; (iterate 5 exact rfl); first | exact ld_blk hT rfl rfl mem1 rfl rfl | exact ld_all hT rfl rfl mem1 rfl)
      | (apply es_load; (iterate 5 exact rfl); first | exact ld_blk hT rfl rfl mem2 rfl rfl | exact ld_all hT rfl rfl mem2 rfl)
      | (apply es_load; (iterate 5 exact rfl); first | exact ld_blk hT rfl rfl mem2 rfl rfl | exact ld_all hT rfl rfl mem2 rfl)
      | (apply es_load; (iterate 5 exact rfl); first | exact ld_blk hT rfl rfl (List.mem_cons_of_mem _ mem2) rfl rfl | exact ld_all hT rfl rfl (List.mem_cons_of_mem _ mem2) rfl)
      | (apply es_load; (iterate 5 exact rfl); first | exact ld_blk hT rfl rfl mem3 rfl rfl | exact ld_all hT rfl rfl mem3 rfl)
      | (apply es_load; (iterate 5 exact rfl); first | exact ld_blk hT rfl rfl (List.mem_cons_of_mem _ mem3) rfl rfl | exact ld_all hT rfl rfl (List.mem_cons_of_mem _ mem3) rfl)
      | (apply es_box; (iterate 5 exact rfl); intro _) | (apply es_alloc hT; (iterate 5 exact rfl); intro _)
      | (apply aw_condT; (iterate 2 exact rfl)) | (apply aw_condF; (iterate 2 exact rfl))
      | (apply es_case; exact rfl; all_goals intro hb; all_goals (try simp only [hb]); all_goals (first | replace hb := of_decide_eq_true hb | replace hb := of_decide_eq_false hb | replace hb := bne_t hb | replace hb := bne_f hb | skip); all_goals (try (exfalso; omega)))
      | (apply aw_cond; exact rfl; all_goals intro hb; all_goals (try simp only [hb]); all_goals (first | replace hb := of_decide_eq_true hb | replace hb := of_decide_eq_false hb | replace hb := bne_t hb | replace hb := bne_f hb | skip); all_goals (try (exfalso; omega))))
    all_goals first
      | (apply ret1; exact rfl; exact rfl)
      | (exfalso; simp_all)
  · have hlive := fun p => quo_LiveB W p [⟨3, 2, 1, 9, e, true⟩] 2 tick [] (by simp) (by simp [isLive]; omega)
    have hd : decide (e > tick) = false := by simpa using hlt
    repeat' (first
      | apply aw_seq | apply aw_region | apply aw_ret | apply aw_skip | apply aw_exit | apply aw_block | apply es_nil
      | (apply es_pure hT; (iterate 4 exact rfl)) | (apply es_skip; (iterate 3 exact rfl)) | (apply es_skip0; (iterate 2 exact rfl))
      | (apply es_i64 hT; (iterate 4 exact rfl); (iterate 2 omega))
      | (apply aw_draw [] [] hmix; decide +kernel)
      | (apply es_call (hs := (quo_New W _)); (iterate 7 exact rfl); rintro _ _ ⟨p, A, c, rfl, rfl⟩)
      | (apply es_build hT; (iterate 4 exact rfl))
      | (apply es_call (hs := (hput _ _ _ _ _)); (iterate 7 exact rfl); rintro _ _ ⟨rfl, A1, c1, rfl⟩)
      | (apply es_store hT; (iterate 6 exact rfl); (first | exact sel0 | exact sel1 | exact selS sel1 | exact selS (selS sel1) | exact selS (selS (selS sel1)) | exact selS (selS (selS (selS sel1))) | exact selS (selS (selS (selS (selS sel1)))) | exact selS (selS (selS (selS (selS (selS sel1)))))); (iterate 3 exact rfl); exact Nat.le_of_ble_eq_true rfl)
      | (apply es_call (hs := (hlive _ _ _ _)); (iterate 7 exact rfl); rintro _ _ ⟨A3, c3, rfl, rfl, hf3⟩)
      | (apply es_call (hs := (hlive1 _ _ _ _)); (iterate 7 exact rfl); rintro _ _ ⟨A4, c4, rfl, rfl, hf4⟩)
      | (apply es_call (hs := (hof _ _ _ _)); (iterate 7 exact rfl); rintro _ _ ⟨A5, c5, rfl, rfl, hf5⟩)
      | (apply es_callQ (hs := (hk.mono (by simp))); (iterate 7 exact rfl))
      | (apply es_load; (iterate 5 exact rfl); first | exact ld_blk hT rfl rfl mem0 rfl rfl | exact ld_all hT rfl rfl mem0 rfl)
      | (apply es_load; (iterate 5 exact rfl); first | exact ld_blk hT rfl rfl mem1 rfl rfl | exact ld_all hT rfl rfl mem1 rfl)
      | (apply es_load; (iterate 5 exact rfl); first | exact ld_blk hT rfl rfl mem2 rfl rfl | exact ld_all hT rfl rfl mem2 rfl)
      | (apply es_load; (iterate 5 exact rfl); first | exact ld_blk hT rfl rfl mem2 rfl rfl | exact ld_all hT rfl rfl mem2 rfl)
      | (apply es_load; (iterate 5 exact rfl); first | exact ld_blk hT rfl rfl (List.mem_cons_of_mem _ mem2) rfl rfl | exact ld_all hT rfl rfl (List.mem_cons_of_mem _ mem2) rfl)
      | (apply es_load; (iterate 5 exact rfl); first | exact ld_blk hT rfl rfl mem3 rfl rfl | exact ld_all hT rfl rfl mem3 rfl)
      | (apply es_load; (iterate 5 exact rfl); first | exact ld_blk hT rfl rfl (List.mem_cons_of_mem _ mem3) rfl rfl | exact ld_all hT rfl rfl (List.mem_cons_of_mem _ mem3) rfl)
      | (apply es_box; (iterate 5 exact rfl); intro _) | (apply es_alloc hT; (iterate 5 exact rfl); intro _)
      | (apply aw_condT; (iterate 2 exact rfl)) | (apply aw_condF; (iterate 2 exact rfl))
      | (apply es_case; exact rfl; all_goals intro hb; all_goals (try simp only [hb]); all_goals (first | replace hb := of_decide_eq_true hb | replace hb := of_decide_eq_false hb | replace hb := bne_t hb | replace hb := bne_f hb | skip); all_goals (try (exfalso; omega)))
      | (apply aw_cond; exact rfl; all_goals intro hb; all_goals (try simp only [hb]); all_goals (first | replace hb := of_decide_eq_true hb | replace hb := of_decide_eq_false hb | replace hb := bne_t hb | replace hb := bne_f hb | skip); all_goals (try (exfalso; omega))))
    all_goals first
      | (apply ret1; exact rfl; exact rfl)
      | (exfalso; simp_all)

end Go.Proofs.Ytmoglacdddinjaa
