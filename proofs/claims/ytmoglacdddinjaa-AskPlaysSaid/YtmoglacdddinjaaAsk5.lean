/- Contracts of package ask on nil, and on rows that are told; the law's own 'known'. Conditions stand in each statement. -/
import Derived.Test.YtmoglacdddinjaaAsk4
import Derived.Test.YtmoglacdddinjaaRow
set_option linter.unusedSimpArgs false
set_option linter.unusedVariables false
namespace Go.Proofs.Ytmoglacdddinjaa
open Go Go.Sl
attribute [local irreducible] AW ES EP Ld RetQ
set_option maxRecDepth 100000

theorem sOKAsk : structOK Try.prog 71 := ⟨by kernel_rfl, by kernel_rfl⟩
theorem ask_ofNil (W : World) (id : Int) : QSpec Try.prog W 79 [.pointer none, .int .i64 id] [] (.tuple #[.pointer none, .int .i64 4]) := by
  refine QSpec.ofD (fun h' hs => ?_)
  refine spec_body Try.func79 rfl rfl Try.results79 Try.ntmps79 rfl rfl ?_
  repeat' (first
    | apply aw_seq | apply aw_region | apply aw_ret | apply aw_skip | apply aw_exit | apply aw_block | apply es_nil
    | (apply es_pure hT; (iterate 4 exact rfl)) | (apply es_skip; (iterate 3 exact rfl)) | (apply es_skip0; (iterate 2 exact rfl))
    | (apply es_i64 hT; (iterate 4 exact rfl); (iterate 2 omega))
    | (apply aw_draw [] [] hmix; decide +kernel)
    | (apply es_callQ (hs := ((ask_findNil W id).mono (by simp))); (iterate 7 exact rfl))
    | (apply es_load; (iterate 5 exact rfl); first | exact ld_blk hT rfl rfl mem0 rfl rfl | exact ld_all hT rfl rfl mem0 rfl)
    | (apply es_load; (iterate 5 exact rfl); first | exact ld_blk hT rfl rfl mem1 rfl rfl | exact ld_all hT rfl rfl mem1 rfl)
    | (apply es_load; (iterate 5 exact rfl); first | exact ld_blk hT rfl rfl mem2 rfl rfl | exact ld_all hT rfl rfl mem2 rfl)
    | (apply es_box; (iterate 5 exact rfl); intro _) | (apply es_alloc hT; (iterate 5 exact rfl); intro _)
    | (apply aw_condT; (iterate 2 exact rfl)) | (apply aw_condF; (iterate 2 exact rfl))
    | (apply es_case; exact rfl; all_goals intro hb; all_goals (try simp only [hb]); all_goals (first | replace hb := of_decide_eq_true hb | replace hb := of_decide_eq_false hb | replace hb := bne_t hb | replace hb := bne_f hb | skip); all_goals (try (exfalso; omega)))
    | (apply aw_cond; exact rfl; all_goals intro hb; all_goals (try simp only [hb]); all_goals (first | replace hb := of_decide_eq_true hb | replace hb := of_decide_eq_false hb | replace hb := bne_t hb | replace hb := bne_f hb | skip); all_goals (try (exfalso; omega))))
  apply ret2; exact rfl; exact rfl
  exact ⟨rfl, by (repeat (first | exact dt_end | apply dt_skip))⟩
theorem ask_BackNil (W : World) (id : Int) : QSpec Try.prog W 40 [.pointer none, .int .i64 id] [] (.int .i64 4) := by
  refine QSpec.ofD (fun h' hs => ?_)
  refine spec_body Try.func40 rfl rfl Try.results40 Try.ntmps40 rfl rfl ?_
  repeat' (first
    | apply aw_seq | apply aw_region | apply aw_ret | apply aw_skip | apply aw_exit | apply aw_block | apply es_nil
    | (apply es_pure hT; (iterate 4 exact rfl)) | (apply es_skip; (iterate 3 exact rfl)) | (apply es_skip0; (iterate 2 exact rfl))
    | (apply es_i64 hT; (iterate 4 exact rfl); (iterate 2 omega))
    | (apply aw_draw [] [] hmix; decide +kernel)
    | (apply es_callQ (hs := ((ask_ofNil W id).mono (by simp))); (iterate 7 exact rfl))
    | (apply es_load; (iterate 5 exact rfl); first | exact ld_blk hT rfl rfl mem0 rfl rfl | exact ld_all hT rfl rfl mem0 rfl)
    | (apply es_load; (iterate 5 exact rfl); first | exact ld_blk hT rfl rfl mem1 rfl rfl | exact ld_all hT rfl rfl mem1 rfl)
    | (apply es_load; (iterate 5 exact rfl); first | exact ld_blk hT rfl rfl mem2 rfl rfl | exact ld_all hT rfl rfl mem2 rfl)
    | (apply es_box; (iterate 5 exact rfl); intro _) | (apply es_alloc hT; (iterate 5 exact rfl); intro _)
    | (apply aw_condT; (iterate 2 exact rfl)) | (apply aw_condF; (iterate 2 exact rfl))
    | (apply es_case; exact rfl; all_goals intro hb; all_goals (try simp only [hb]); all_goals (first | replace hb := of_decide_eq_true hb | replace hb := of_decide_eq_false hb | replace hb := bne_t hb | replace hb := bne_f hb | skip); all_goals (try (exfalso; omega)))
    | (apply aw_cond; exact rfl; all_goals intro hb; all_goals (try simp only [hb]); all_goals (first | replace hb := of_decide_eq_true hb | replace hb := of_decide_eq_false hb | replace hb := bne_t hb | replace hb := bne_f hb | skip); all_goals (try (exfalso; omega))))
  apply ret1; exact rfl
  exact ⟨rfl, by (repeat (first | exact dt_end | apply dt_skip))⟩
theorem ask_AddNil (W : World) (a : AskR) : QSpec Try.prog W 36 [.pointer none, .agg a.enc.toArray] [] (.int .i64 1) := by
  refine QSpec.ofD (fun h' hs => ?_)
  refine spec_body Try.func36 rfl rfl Try.results36 Try.ntmps36 rfl rfl ?_
  repeat' (first
    | apply aw_seq | apply aw_region | apply aw_ret | apply aw_skip | apply aw_exit | apply aw_block | apply es_nil
    | (apply es_pure hT; (iterate 4 exact rfl)) | (apply es_skip; (iterate 3 exact rfl)) | (apply es_skip0; (iterate 2 exact rfl))
    | (apply es_i64 hT; (iterate 4 exact rfl); (iterate 2 omega))
    | (apply aw_draw [] [] hmix; decide +kernel)
    | (apply es_callQ (hs := ((ask_findNil W a.id).mono (by simp))); (iterate 7 exact rfl))
    | (apply es_load; (iterate 5 exact rfl); first | exact ld_blk hT rfl rfl mem0 rfl rfl | exact ld_all hT rfl rfl mem0 rfl)
    | (apply es_load; (iterate 5 exact rfl); first | exact ld_blk hT rfl rfl mem1 rfl rfl | exact ld_all hT rfl rfl mem1 rfl)
    | (apply es_load; (iterate 5 exact rfl); first | exact ld_blk hT rfl rfl mem2 rfl rfl | exact ld_all hT rfl rfl mem2 rfl)
    | (apply es_box; (iterate 5 exact rfl); intro _) | (apply es_alloc hT; (iterate 5 exact rfl); intro _)
    | (apply aw_condT; (iterate 2 exact rfl)) | (apply aw_condF; (iterate 2 exact rfl))
    | (apply es_case; exact rfl; all_goals intro hb; all_goals (try simp only [hb]); all_goals (first | replace hb := of_decide_eq_true hb | replace hb := of_decide_eq_false hb | replace hb := bne_t hb | replace hb := bne_f hb | skip); all_goals (try (exfalso; omega)))
    | (apply aw_cond; exact rfl; all_goals intro hb; all_goals (try simp only [hb]); all_goals (first | replace hb := of_decide_eq_true hb | replace hb := of_decide_eq_false hb | replace hb := bne_t hb | replace hb := bne_f hb | skip); all_goals (try (exfalso; omega))))
  apply ret1; exact rfl
  exact ⟨rfl, by (repeat (first | exact dt_end | apply dt_skip))⟩
theorem ask_GetNil (W : World) (id : Int) : QSpec Try.prog W 44 [.pointer none, .int .i64 id] [] (.tuple #[.agg zeroA.enc.toArray, .bool false]) := by
  refine QSpec.ofD (fun h' hs => ?_)
  refine spec_body Try.func44 rfl rfl Try.results44 Try.ntmps44 rfl rfl ?_
  repeat' (first
    | apply aw_seq | apply aw_region | apply aw_ret | apply aw_skip | apply aw_exit | apply aw_block | apply es_nil
    | (apply es_pure hT; (iterate 4 exact rfl)) | (apply es_skip; (iterate 3 exact rfl)) | (apply es_skip0; (iterate 2 exact rfl))
    | (apply es_i64 hT; (iterate 4 exact rfl); (iterate 2 omega))
    | (apply aw_draw [] [] hmix; decide +kernel)
    | (apply es_alloc hT; (iterate 5 exact rfl); intro g4)
    | (apply es_callQ (hs := ((ask_findNil W id).mono (by simp))); (iterate 7 exact rfl))
    | (apply es_build hT; (iterate 4 exact rfl))
    | (apply es_store hT; (iterate 6 exact rfl); (first | exact sel0 | exact sel1 | exact selS sel1 | exact selS (selS sel1) | exact selS (selS (selS sel1)) | exact selS (selS (selS (selS sel1))) | exact selS (selS (selS (selS (selS sel1)))) | exact selS (selS (selS (selS (selS (selS sel1)))))); (iterate 3 exact rfl); exact Nat.le_of_ble_eq_true rfl)
    | (apply es_load; (iterate 5 exact rfl); first | exact ld_blk hT rfl rfl mem0 rfl rfl | exact ld_all hT rfl rfl mem0 rfl)
    | (apply es_load; (iterate 5 exact rfl); first | exact ld_blk hT rfl rfl mem1 rfl rfl | exact ld_all hT rfl rfl mem1 rfl)
    | (apply es_load; (iterate 5 exact rfl); first | exact ld_blk hT rfl rfl mem2 rfl rfl | exact ld_all hT rfl rfl mem2 rfl)
    | (apply es_box; (iterate 5 exact rfl); intro _) | (apply es_alloc hT; (iterate 5 exact rfl); intro _)
    | (apply aw_condT; (iterate 2 exact rfl)) | (apply aw_condF; (iterate 2 exact rfl))
    | (apply es_case; exact rfl; all_goals intro hb; all_goals (try simp only [hb]); all_goals (first | replace hb := of_decide_eq_true hb | replace hb := of_decide_eq_false hb | replace hb := bne_t hb | replace hb := bne_f hb | skip); all_goals (try (exfalso; omega)))
    | (apply aw_cond; exact rfl; all_goals intro hb; all_goals (try simp only [hb]); all_goals (first | replace hb := of_decide_eq_true hb | replace hb := of_decide_eq_false hb | replace hb := bne_t hb | replace hb := bne_f hb | skip); all_goals (try (exfalso; omega))))
  apply ret2c; exact rfl; exact ld_all hT rfl rfl mem0 rfl; exact rfl
  exact ⟨rfl, by (repeat (first | exact dt_end | apply dt_skip))⟩
theorem ask_ManyNil (W : World) : QSpec Try.prog W 48 [.pointer none] [] (.int .i64 0) := by
  refine QSpec.ofD (fun h' hs => ?_)
  refine spec_body Try.func48 rfl rfl Try.results48 Try.ntmps48 rfl rfl ?_
  repeat' (first
    | apply aw_seq | apply aw_region | apply aw_ret | apply aw_skip | apply aw_exit | apply aw_block | apply es_nil
    | (apply es_pure hT; (iterate 4 exact rfl)) | (apply es_skip; (iterate 3 exact rfl)) | (apply es_skip0; (iterate 2 exact rfl))
    | (apply es_i64 hT; (iterate 4 exact rfl); (iterate 2 omega))
    | (apply aw_draw [] [] hmix; decide +kernel)
    | (apply es_callQ (hs := ((ask_AllNil W).mono (by simp))); (iterate 7 exact rfl))
    | (apply es_load; (iterate 5 exact rfl); first | exact ld_blk hT rfl rfl mem0 rfl rfl | exact ld_all hT rfl rfl mem0 rfl)
    | (apply es_load; (iterate 5 exact rfl); first | exact ld_blk hT rfl rfl mem1 rfl rfl | exact ld_all hT rfl rfl mem1 rfl)
    | (apply es_load; (iterate 5 exact rfl); first | exact ld_blk hT rfl rfl mem2 rfl rfl | exact ld_all hT rfl rfl mem2 rfl)
    | (apply es_box; (iterate 5 exact rfl); intro _) | (apply es_alloc hT; (iterate 5 exact rfl); intro _)
    | (apply aw_condT; (iterate 2 exact rfl)) | (apply aw_condF; (iterate 2 exact rfl))
    | (apply es_case; exact rfl; all_goals intro hb; all_goals (try simp only [hb]); all_goals (first | replace hb := of_decide_eq_true hb | replace hb := of_decide_eq_false hb | replace hb := bne_t hb | replace hb := bne_f hb | skip); all_goals (try (exfalso; omega)))
    | (apply aw_cond; exact rfl; all_goals intro hb; all_goals (try simp only [hb]); all_goals (first | replace hb := of_decide_eq_true hb | replace hb := of_decide_eq_false hb | replace hb := bne_t hb | replace hb := bne_f hb | skip); all_goals (try (exfalso; omega))))
  refine aw_loop (α := Unit) (E := fun x => [(3, .int .i64 0), (7, .slice none 0 0), (8, .int .i64 0), (9, .int .i64 0)]) (H := fun _ => h') (μ := fun _ => 0) (S := fun _ => True) () (J := []) trivial ⟨rfl, rfl, rfl, rfl, trivial⟩ (List.Perm.refl _) ?_
  intro _ _
  repeat' (first
    | apply aw_seq | apply aw_region | apply aw_ret | apply aw_skip | apply aw_exit | apply aw_block | apply es_nil
    | (apply es_pure hT; (iterate 4 exact rfl)) | (apply es_skip; (iterate 3 exact rfl)) | (apply es_skip0; (iterate 2 exact rfl))
    | (apply es_i64 hT; (iterate 4 exact rfl); (iterate 2 omega))
    | (apply aw_draw [] [] hmix; decide +kernel)
    | (apply es_load; (iterate 5 exact rfl); first | exact ld_blk hT rfl rfl mem0 rfl rfl | exact ld_all hT rfl rfl mem0 rfl)
    | (apply es_load; (iterate 5 exact rfl); first | exact ld_blk hT rfl rfl mem1 rfl rfl | exact ld_all hT rfl rfl mem1 rfl)
    | (apply es_load; (iterate 5 exact rfl); first | exact ld_blk hT rfl rfl mem2 rfl rfl | exact ld_all hT rfl rfl mem2 rfl)
    | (apply es_box; (iterate 5 exact rfl); intro _) | (apply es_alloc hT; (iterate 5 exact rfl); intro _)
    | (apply aw_condT; (iterate 2 exact rfl)) | (apply aw_condF; (iterate 2 exact rfl))
    | (apply es_case; exact rfl; all_goals intro hb; all_goals (try simp only [hb]); all_goals (first | replace hb := of_decide_eq_true hb | replace hb := of_decide_eq_false hb | replace hb := bne_t hb | replace hb := bne_f hb | skip); all_goals (try (exfalso; omega)))
    | (apply aw_cond; exact rfl; all_goals intro hb; all_goals (try simp only [hb]); all_goals (first | replace hb := of_decide_eq_true hb | replace hb := of_decide_eq_false hb | replace hb := bne_t hb | replace hb := bne_f hb | skip); all_goals (try (exfalso; omega))))
  apply ret1; exact rfl
  exact ⟨rfl, by (repeat (first | exact dt_end | apply dt_skip))⟩

theorem ask_AllB (W : World) (p : Nat) (l : List AskR) (n : Nat) (hb : l.length ≤ 1000000) (hn : l.length = n) (F : List Chunk) (A : Option Addr) (c : Nat) :
    FSpec Try.prog W 47 [.pointer (some ⟨p, 0, none⟩)] (askTab p A c l F) (fun v h' => ∃ A' c', v = .slice A' n c' ∧ h' = .own A' n c' 71 10 (l.flatMap AskR.enc) :: askTab p A c l F ∧ OwnF A' n c' 10 (l.flatMap AskR.enc)) := by
  subst hn
  exact ⟨(ask_AllNil W).1, fun w hw => (ask_All W (askTab p A c l F) p A c l mem0 (Reads.own (h := askTab p A c l F) mem1 (hw.own_len (h := askTab p A c l F) mem1).1 (hw.own_len (h := askTab p A c l F) mem1).2) hb).2 w hw⟩
theorem ask_AddB (W : World) (p : Nat) (l : List AskR) (a : AskR) (e : Int) (m : List AskR) (hb : l.length ≤ 1000000) (hup : upA l) (hv : addE a l = e) (hm : addA a l = m) (F : List Chunk) (A : Option Addr) (c : Nat) :
    FSpec Try.prog W 36 [.pointer (some ⟨p, 0, none⟩), .agg a.enc.toArray] (askTab p A c l F) (fun v h' => v = .int .i64 e ∧ ∃ A' c', h' = askTab p A' c' m F) := by
  subst hv hm
  exact ask_Add W F p A c l a hb hup
theorem ask_AddX (W : World) (p : Nat) (l : List AskR) (a : AskR) (e : Int) (m : List AskR) (hb : l.length ≤ 1000000) (hup : upA l) (hv : addE a l = e) (hm : addA a l = m) (X : Chunk) (F : List Chunk) (A : Option Addr) (c : Nat) :
    FSpec Try.prog W 36 [.pointer (some ⟨p, 0, none⟩), .agg a.enc.toArray] (X :: askTab p A c l F) (fun v h' => v = .int .i64 e ∧ ∃ A' c', h' = askTab p A' c' m (X :: F)) :=
  (ask_AddB W p l a e m hb hup hv hm (X :: F) A c).perm (selS (selS sel0)).symm
theorem ask_LookB (W : World) (p : Nat) (l : List AskR) (id quote until_ : Int) (e : Int) (m : List AskR) (hb : l.length ≤ 1000000) (hup : upA l) (hv : lookE id quote until_ l = e) (hm : lookA id quote until_ l = m) (F : List Chunk) (A : Option Addr) (c : Nat) :
    FSpec Try.prog W 38 [.pointer (some ⟨p, 0, none⟩), .int .i64 id, .int .i64 quote, .int .i64 until_] (askTab p A c l F) (fun v h' => v = .int .i64 e ∧ h' = askTab p A c m F) := by
  subst hv hm
  exact ask_Look W F p A c l id quote until_ hb hup
theorem ask_BackB (W : World) (p : Nat) (l : List AskR) (id : Int) (e : Int) (m : List AskR) (hb : l.length ≤ 1000000) (hup : upA l) (hv : backE id l = e) (hm : backA id l = m) (F : List Chunk) (A : Option Addr) (c : Nat) :
    FSpec Try.prog W 40 [.pointer (some ⟨p, 0, none⟩), .int .i64 id] (askTab p A c l F) (fun v h' => v = .int .i64 e ∧ h' = askTab p A c m F) := by
  subst hv hm
  exact ask_Back W F p A c l id hb hup
theorem ask_EndB (W : World) (p : Nat) (l : List AskR) (id state : Int) (e : Int) (m : List AskR) (hb : l.length ≤ 1000000) (hup : upA l) (hv : endE id state l = e) (hm : endA id state l = m) (F : List Chunk) (A : Option Addr) (c : Nat) :
    FSpec Try.prog W 42 [.pointer (some ⟨p, 0, none⟩), .int .i64 id, .int .i64 state] (askTab p A c l F) (fun v h' => v = .int .i64 e ∧ h' = askTab p A c m F) := by
  subst hv hm
  exact ask_End W F p A c l id state hb hup
theorem ask_GetB (W : World) (p : Nat) (l : List AskR) (id : Int) (x : AskR) (hb : l.length ≤ 1000000) (hup : upA l) (hv : getA id l = some x) (F : List Chunk) (A : Option Addr) (c : Nat) :
    QSpec Try.prog W 44 [.pointer (some ⟨p, 0, none⟩), .int .i64 id] (askTab p A c l F) (.tuple #[.agg x.enc.toArray, .bool true]) := by
  have := (ask_Get W p A c l id hb hup).mono (h' := askTab p A c l F) (by intro c hc; simp only [askTab, List.mem_cons, List.not_mem_nil, or_false] at hc ⊢; rcases hc with rfl | rfl <;> simp)
  rw [hv] at this
  exact this
theorem ask_ManyB (W : World) (p : Nat) (l : List AskR) (n : Int) (hb : l.length ≤ 1000000) (hv : ((manyA l : Nat) : Int) = n) (F : List Chunk) (A : Option Addr) (c : Nat) :
    QSpec Try.prog W 48 [.pointer (some ⟨p, 0, none⟩)] (askTab p A c l F) (.int .i64 n) := by
  subst hv
  exact (ask_Many W p A c l hb).mono (h' := askTab p A c l F) (by intro c hc; simp only [askTab, List.mem_cons, List.not_mem_nil, or_false] at hc ⊢; rcases hc with rfl | rfl <;> simp)

def ka1 : AskR := ⟨1, 0, 0, 1, 5, 4, 0, 0, 1, 0⟩
def ka2 : AskR := ⟨1, 0, 0, 1, 5, 4, 0, 9, 2, 7⟩
def ka3 : AskR := ⟨1, 0, 0, 1, 5, 4, 0, 0, 3, 7⟩
theorem ask_known (W : World) : QSpec Try.prog W 50 [] [] (.bool true) := by
  refine QSpec.ofD (fun h' hs => ?_)
  refine spec_body Try.func50 rfl rfl Try.results50 Try.ntmps50 rfl rfl ?_
  have hadd := fun p => ask_AddB W p [] ka1 0 [ka1] (by simp) (by simp [upA]) rfl rfl
  have hend1 := fun p => ask_EndB W p [ka1] 1 3 11 [ka1] (by simp) (by simp [upA]) rfl rfl
  have hlook := fun p => ask_LookB W p [ka1] 1 7 9 0 [ka2] (by simp) (by simp [upA]) rfl rfl
  have hend2 := fun p => ask_EndB W p [ka2] 1 3 0 [ka3] (by simp) (by simp [upA]) rfl rfl
  have hget := fun p => ask_GetB W p [ka3] 1 ka3 (by simp) (by simp [upA]) rfl
  have hmany := fun p => ask_ManyB W p [ka3] 0 (by simp) rfl
  repeat' (first
    | apply aw_seq | apply aw_region | apply aw_ret | apply aw_skip | apply aw_exit | apply aw_block | apply es_nil
    | (apply es_pure hT; (iterate 4 exact rfl)) | (apply es_skip; (iterate 3 exact rfl)) | (apply es_skip0; (iterate 2 exact rfl))
    | (apply es_i64 hT; (iterate 4 exact rfl); (iterate 2 omega))
    | (apply aw_draw [] [] hmix; decide +kernel)
    | (apply es_call (hs := (ask_New W _)); (iterate 7 exact rfl); rintro _ _ ⟨p, A, c, rfl, rfl⟩)
    | (apply es_build hT; (iterate 4 exact rfl))
    | (apply es_call (hs := (hadd _ _ _ _)); (iterate 7 exact rfl); rintro _ _ ⟨rfl, A1, c1, rfl⟩)
    | (apply es_call (hs := (hend1 _ _ _ _)); (iterate 7 exact rfl); rintro _ _ ⟨rfl, rfl⟩)
    | (apply es_call (hs := (hlook _ _ _ _)); (iterate 7 exact rfl); rintro _ _ ⟨rfl, rfl⟩)
    | (apply es_call (hs := (hend2 _ _ _ _)); (iterate 7 exact rfl); rintro _ _ ⟨rfl, rfl⟩)
    | (apply es_callQ (hs := (hget _ _ _ _)); (iterate 7 exact rfl))
    | (apply es_callQ (hs := ((hmany _ _ _ _).mono (by (first | exact fun _ h => h | exact fun _ h => .tail _ h | exact fun _ h => .tail _ (.tail _ h) | exact fun _ h => .tail _ (.tail _ (.tail _ h)) | exact fun _ h => .tail _ (.tail _ (.tail _ (.tail _ h))))))); (iterate 7 exact rfl))
    | (apply es_alloc hT; (iterate 5 exact rfl); intro g8)
    | (apply es_store hT; (iterate 6 exact rfl); exact sel0; (iterate 3 exact rfl); exact Nat.le_of_ble_eq_true rfl)
    | (apply es_load; (iterate 5 exact rfl); first | exact ld_blk hT rfl rfl mem0 rfl rfl | exact ld_all hT rfl rfl mem0 rfl)
    | (apply es_load; (iterate 5 exact rfl); first | exact ld_blk hT rfl rfl mem1 rfl rfl | exact ld_all hT rfl rfl mem1 rfl)
    | (apply es_load; (iterate 5 exact rfl); first | exact ld_blk hT rfl rfl mem2 rfl rfl | exact ld_all hT rfl rfl mem2 rfl)
    | (apply es_load; (iterate 5 exact rfl); first | exact ld_blk hT rfl rfl mem2 rfl rfl | exact ld_all hT rfl rfl mem2 rfl)
    | (apply es_load; (iterate 5 exact rfl); first | exact ld_blk hT rfl rfl (List.mem_cons_of_mem _ mem2) rfl rfl | exact ld_all hT rfl rfl (List.mem_cons_of_mem _ mem2) rfl)
    | (apply es_load; (iterate 5 exact rfl); first | exact ld_blk hT rfl rfl (List.mem_cons_of_mem _ (List.mem_cons_of_mem _ mem2)) rfl rfl | exact ld_all hT rfl rfl (List.mem_cons_of_mem _ (List.mem_cons_of_mem _ mem2)) rfl)
    | (apply es_load; (iterate 5 exact rfl); first | exact ld_blk hT rfl rfl (List.mem_cons_of_mem _ (List.mem_cons_of_mem _ (List.mem_cons_of_mem _ mem2))) rfl rfl | exact ld_all hT rfl rfl (List.mem_cons_of_mem _ (List.mem_cons_of_mem _ (List.mem_cons_of_mem _ mem2))) rfl)
    | (apply es_load; (iterate 5 exact rfl); first | exact ld_blk hT rfl rfl mem3 rfl rfl | exact ld_all hT rfl rfl mem3 rfl)
    | (apply es_load; (iterate 5 exact rfl); first | exact ld_blk hT rfl rfl (List.mem_cons_of_mem _ mem3) rfl rfl | exact ld_all hT rfl rfl (List.mem_cons_of_mem _ mem3) rfl)
    | (apply es_load; (iterate 5 exact rfl); first | exact ld_blk hT rfl rfl (List.mem_cons_of_mem _ (List.mem_cons_of_mem _ mem3)) rfl rfl | exact ld_all hT rfl rfl (List.mem_cons_of_mem _ (List.mem_cons_of_mem _ mem3)) rfl)
    | (apply es_load; (iterate 5 exact rfl); first | exact ld_blk hT rfl rfl (List.mem_cons_of_mem _ (List.mem_cons_of_mem _ (List.mem_cons_of_mem _ mem3))) rfl rfl | exact ld_all hT rfl rfl (List.mem_cons_of_mem _ (List.mem_cons_of_mem _ (List.mem_cons_of_mem _ mem3))) rfl)
    | (apply es_box; (iterate 5 exact rfl); intro _) | (apply es_alloc hT; (iterate 5 exact rfl); intro _)
    | (apply aw_condT; (iterate 2 exact rfl)) | (apply aw_condF; (iterate 2 exact rfl))
    | (apply es_case; exact rfl; all_goals intro hb; all_goals (try simp only [hb]); all_goals (first | replace hb := of_decide_eq_true hb | replace hb := of_decide_eq_false hb | replace hb := bne_t hb | replace hb := bne_f hb | skip); all_goals (try (exfalso; omega)))
    | (apply aw_cond; exact rfl; all_goals intro hb; all_goals (try simp only [hb]); all_goals (first | replace hb := of_decide_eq_true hb | replace hb := of_decide_eq_false hb | replace hb := bne_t hb | replace hb := bne_f hb | skip); all_goals (try (exfalso; omega))))
  apply ret1; exact rfl
  exact ⟨rfl, by (repeat (first | exact dt_end | apply dt_skip))⟩
end Go.Proofs.Ytmoglacdddinjaa
