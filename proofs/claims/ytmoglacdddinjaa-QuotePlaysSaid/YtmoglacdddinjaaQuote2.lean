/- Contracts of package quote, more: what is live, what is put, killed, cleared. Conditions stand in each statement. -/
import Derived.Test.YtmoglacdddinjaaQuote
import Derived.Test.YtmoglacdddinjaaDelFQuote
set_option linter.unusedSimpArgs false
set_option linter.unusedVariables false
namespace Go.Proofs.Ytmoglacdddinjaa
open Go Go.Sl
attribute [local irreducible] AW ES EP Ld RetQ
set_option maxRecDepth 100000

def isLive (ask tick : Int) (q : Quote) : Bool := q.ask == ask && q.live && decide (q.expires > tick)
def isOf (dealer : Int) (q : Quote) : Bool := q.dealer == dealer && q.live
def isAsk (ask : Int) (q : Quote) : Bool := q.ask == ask

theorem quo_Live1 (W : World) (q : Quote) (b1 b2 : Nat) (ask tick : Int) :
    QSpec Try.prog W 62 [.agg q.enc.toArray, .pointer (some ⟨b1, 0, none⟩), .pointer (some ⟨b2, 0, none⟩)] [.blk b1 2 [.int .i64 ask], .blk b2 2 [.int .i64 tick]] (.bool (isLive ask tick q)) := by
  refine QSpec.ofD (fun h' hs => ?_)
  have m1 := hs _ mem0
  have m2 := hs _ mem1
  refine spec_body Try.func62 rfl rfl Try.results62 Try.ntmps62 rfl rfl ?_
  cases hl : q.live
  all_goals
    have e : q.enc = [.int .i64 q.id, .int .i64 q.ask, .int .i64 q.dealer, .int .i64 q.price, .int .i64 q.expires, .bool q.live] := rfl
    rw [hl] at e
    rw [e]
    repeat' (first
      | apply aw_seq | apply aw_region | apply aw_ret | apply aw_skip | apply aw_exit | apply aw_block | apply es_nil
      | (apply es_pure hT; (iterate 4 exact rfl)) | (apply es_skip; (iterate 3 exact rfl)) | (apply es_skip0; (iterate 2 exact rfl))
      | (apply es_i64 hT; (iterate 4 exact rfl); (iterate 2 omega))
      | (apply aw_draw [] [] hmix; decide +kernel)
      | (apply es_load; (iterate 5 exact rfl); first | exact ld_blk hT rfl rfl mem0 rfl rfl | exact ld_all hT rfl rfl mem0 rfl)
      | (apply es_load; (iterate 5 exact rfl); first | exact ld_blk hT rfl rfl mem1 rfl rfl | exact ld_all hT rfl rfl mem1 rfl)
      | (apply es_load; (iterate 5 exact rfl); first | exact ld_blk hT rfl rfl mem2 rfl rfl | exact ld_all hT rfl rfl mem2 rfl)
      | (apply es_load; (iterate 5 exact rfl); first | exact ld_blk hT rfl rfl m1 rfl rfl | exact ld_all hT rfl rfl m1 rfl)
      | (apply es_load; (iterate 5 exact rfl); first | exact ld_blk hT rfl rfl (List.mem_cons_of_mem _ m1) rfl rfl | exact ld_all hT rfl rfl (List.mem_cons_of_mem _ m1) rfl)
      | (apply es_load; (iterate 5 exact rfl); first | exact ld_blk hT rfl rfl m2 rfl rfl | exact ld_all hT rfl rfl m2 rfl)
      | (apply es_load; (iterate 5 exact rfl); first | exact ld_blk hT rfl rfl (List.mem_cons_of_mem _ m2) rfl rfl | exact ld_all hT rfl rfl (List.mem_cons_of_mem _ m2) rfl)
      | (apply es_box; (iterate 5 exact rfl); intro _) | (apply es_alloc hT; (iterate 5 exact rfl); intro _)
      | (apply aw_condT; (iterate 2 exact rfl)) | (apply aw_condF; (iterate 2 exact rfl))
      | (apply es_case; exact rfl; all_goals intro hb; all_goals (try simp only [hb]); all_goals (first | replace hb := of_decide_eq_true hb | replace hb := of_decide_eq_false hb | replace hb := bne_t hb | replace hb := bne_f hb | skip); all_goals (try (exfalso; omega)))
      | (apply aw_cond; exact rfl; all_goals intro hb; all_goals (try simp only [hb]); all_goals (first | replace hb := of_decide_eq_true hb | replace hb := of_decide_eq_false hb | replace hb := bne_t hb | replace hb := bne_f hb | skip); all_goals (try (exfalso; omega))))
  all_goals
    apply ret1; exact rfl
    refine ⟨?_, dt_skip dt_end⟩
    simp [isLive, hl, *]

theorem quo_Of1 (W : World) (q : Quote) (b1 : Nat) (dealer : Int) :
    QSpec Try.prog W 63 [.agg q.enc.toArray, .pointer (some ⟨b1, 0, none⟩)] [.blk b1 3 [.int .i64 dealer]] (.bool (isOf dealer q)) := by
  refine QSpec.ofD (fun h' hs => ?_)
  have m1 := hs _ mem0
  refine spec_body Try.func63 rfl rfl Try.results63 Try.ntmps63 rfl rfl ?_
  repeat' (first
    | apply aw_seq | apply aw_region | apply aw_ret | apply aw_skip | apply aw_exit | apply aw_block | apply es_nil
    | (apply es_pure hT; (iterate 4 exact rfl)) | (apply es_skip; (iterate 3 exact rfl)) | (apply es_skip0; (iterate 2 exact rfl))
    | (apply es_i64 hT; (iterate 4 exact rfl); (iterate 2 omega))
    | (apply aw_draw [] [] hmix; decide +kernel)
    | (apply es_load; (iterate 5 exact rfl); first | exact ld_blk hT rfl rfl mem0 rfl rfl | exact ld_all hT rfl rfl mem0 rfl)
    | (apply es_load; (iterate 5 exact rfl); first | exact ld_blk hT rfl rfl mem1 rfl rfl | exact ld_all hT rfl rfl mem1 rfl)
    | (apply es_load; (iterate 5 exact rfl); first | exact ld_blk hT rfl rfl mem2 rfl rfl | exact ld_all hT rfl rfl mem2 rfl)
    | (apply es_load; (iterate 5 exact rfl); first | exact ld_blk hT rfl rfl m1 rfl rfl | exact ld_all hT rfl rfl m1 rfl)
    | (apply es_load; (iterate 5 exact rfl); first | exact ld_blk hT rfl rfl (List.mem_cons_of_mem _ m1) rfl rfl | exact ld_all hT rfl rfl (List.mem_cons_of_mem _ m1) rfl)
    | (apply es_box; (iterate 5 exact rfl); intro _) | (apply es_alloc hT; (iterate 5 exact rfl); intro _)
    | (apply aw_condT; (iterate 2 exact rfl)) | (apply aw_condF; (iterate 2 exact rfl))
    | (apply es_case; exact rfl; all_goals intro hb; all_goals (try simp only [hb]); all_goals (first | replace hb := of_decide_eq_true hb | replace hb := of_decide_eq_false hb | replace hb := bne_t hb | replace hb := bne_f hb | skip); all_goals (try (exfalso; omega)))
    | (apply aw_cond; exact rfl; all_goals intro hb; all_goals (try simp only [hb]); all_goals (first | replace hb := of_decide_eq_true hb | replace hb := of_decide_eq_false hb | replace hb := bne_t hb | replace hb := bne_f hb | skip); all_goals (try (exfalso; omega))))
  all_goals
    apply ret1; exact rfl
    refine ⟨?_, dt_skip dt_end⟩
    simp [isOf, *]

theorem quo_Clear1 (W : World) (q : Quote) (b1 : Nat) (ask : Int) :
    QSpec Try.prog W 71 [.agg q.enc.toArray, .pointer (some ⟨b1, 0, none⟩)] [.blk b1 2 [.int .i64 ask]] (.bool (isAsk ask q)) := by
  refine QSpec.ofD (fun h' hs => ?_)
  have m1 := hs _ mem0
  refine spec_body Try.func71 rfl rfl Try.results71 Try.ntmps71 rfl rfl ?_
  repeat' (first
    | apply aw_seq | apply aw_region | apply aw_ret | apply aw_skip | apply aw_exit | apply aw_block | apply es_nil
    | (apply es_pure hT; (iterate 4 exact rfl)) | (apply es_skip; (iterate 3 exact rfl)) | (apply es_skip0; (iterate 2 exact rfl))
    | (apply es_i64 hT; (iterate 4 exact rfl); (iterate 2 omega))
    | (apply aw_draw [] [] hmix; decide +kernel)
    | (apply es_load; (iterate 5 exact rfl); first | exact ld_blk hT rfl rfl mem0 rfl rfl | exact ld_all hT rfl rfl mem0 rfl)
    | (apply es_load; (iterate 5 exact rfl); first | exact ld_blk hT rfl rfl mem1 rfl rfl | exact ld_all hT rfl rfl mem1 rfl)
    | (apply es_load; (iterate 5 exact rfl); first | exact ld_blk hT rfl rfl mem2 rfl rfl | exact ld_all hT rfl rfl mem2 rfl)
    | (apply es_load; (iterate 5 exact rfl); first | exact ld_blk hT rfl rfl m1 rfl rfl | exact ld_all hT rfl rfl m1 rfl)
    | (apply es_load; (iterate 5 exact rfl); first | exact ld_blk hT rfl rfl (List.mem_cons_of_mem _ m1) rfl rfl | exact ld_all hT rfl rfl (List.mem_cons_of_mem _ m1) rfl)
    | (apply es_box; (iterate 5 exact rfl); intro _) | (apply es_alloc hT; (iterate 5 exact rfl); intro _)
    | (apply aw_condT; (iterate 2 exact rfl)) | (apply aw_condF; (iterate 2 exact rfl))
    | (apply es_case; exact rfl; all_goals intro hb; all_goals (try simp only [hb]); all_goals (first | replace hb := of_decide_eq_true hb | replace hb := of_decide_eq_false hb | replace hb := bne_t hb | replace hb := bne_f hb | skip); all_goals (try (exfalso; omega)))
    | (apply aw_cond; exact rfl; all_goals intro hb; all_goals (try simp only [hb]); all_goals (first | replace hb := of_decide_eq_true hb | replace hb := of_decide_eq_false hb | replace hb := bne_t hb | replace hb := bne_f hb | skip); all_goals (try (exfalso; omega))))
  apply ret1; exact rfl
  exact ⟨rfl, dt_skip dt_end⟩
theorem quo_Clear2 (W : World) (q : Quote) (b1 : Nat) (ask : Int) :
    QSpec Try.prog W 73 [.agg q.enc.toArray, .pointer (some ⟨b1, 0, none⟩)] [.blk b1 2 [.int .i64 ask]] (.bool (isAsk ask q)) := by
  refine QSpec.ofD (fun h' hs => ?_)
  have m1 := hs _ mem0
  refine spec_body Try.func73 rfl rfl Try.results73 Try.ntmps73 rfl rfl ?_
  repeat' (first
    | apply aw_seq | apply aw_region | apply aw_ret | apply aw_skip | apply aw_exit | apply aw_block | apply es_nil
    | (apply es_pure hT; (iterate 4 exact rfl)) | (apply es_skip; (iterate 3 exact rfl)) | (apply es_skip0; (iterate 2 exact rfl))
    | (apply es_i64 hT; (iterate 4 exact rfl); (iterate 2 omega))
    | (apply aw_draw [] [] hmix; decide +kernel)
    | (apply es_load; (iterate 5 exact rfl); first | exact ld_blk hT rfl rfl mem0 rfl rfl | exact ld_all hT rfl rfl mem0 rfl)
    | (apply es_load; (iterate 5 exact rfl); first | exact ld_blk hT rfl rfl mem1 rfl rfl | exact ld_all hT rfl rfl mem1 rfl)
    | (apply es_load; (iterate 5 exact rfl); first | exact ld_blk hT rfl rfl mem2 rfl rfl | exact ld_all hT rfl rfl mem2 rfl)
    | (apply es_load; (iterate 5 exact rfl); first | exact ld_blk hT rfl rfl m1 rfl rfl | exact ld_all hT rfl rfl m1 rfl)
    | (apply es_load; (iterate 5 exact rfl); first | exact ld_blk hT rfl rfl (List.mem_cons_of_mem _ m1) rfl rfl | exact ld_all hT rfl rfl (List.mem_cons_of_mem _ m1) rfl)
    | (apply es_box; (iterate 5 exact rfl); intro _) | (apply es_alloc hT; (iterate 5 exact rfl); intro _)
    | (apply aw_condT; (iterate 2 exact rfl)) | (apply aw_condF; (iterate 2 exact rfl))
    | (apply es_case; exact rfl; all_goals intro hb; all_goals (try simp only [hb]); all_goals (first | replace hb := of_decide_eq_true hb | replace hb := of_decide_eq_false hb | replace hb := bne_t hb | replace hb := bne_f hb | skip); all_goals (try (exfalso; omega)))
    | (apply aw_cond; exact rfl; all_goals intro hb; all_goals (try simp only [hb]); all_goals (first | replace hb := of_decide_eq_true hb | replace hb := of_decide_eq_false hb | replace hb := bne_t hb | replace hb := bne_f hb | skip); all_goals (try (exfalso; omega))))
  apply ret1; exact rfl
  exact ⟨rfl, dt_skip dt_end⟩

theorem quo_Live (W : World) (F : List Chunk) (p : Nat) (A : Option Addr) (c : Nat) (l : List Quote) (ask tick : Int) (hb : l.length ≤ 1000000) :
    FSpec Try.prog W 16 [.pointer (some ⟨p, 0, none⟩), .int .i64 ask, .int .i64 tick] (quoTab p A c l F)
      (fun v h' => ∃ A' c', v = .slice A' (l.filter (isLive ask tick)).length c' ∧ h' = .own A' (l.filter (isLive ask tick)).length c' 25 6 ((l.filter (isLive ask tick)).flatMap Quote.enc) :: quoTab p A c l F ∧ OwnF A' (l.filter (isLive ask tick)).length c' 6 ((l.filter (isLive ask tick)).flatMap Quote.enc)) := by
  refine FSpec.dropF ?_
  refine spec_body Try.func16 rfl rfl Try.results16 Try.ntmps16 rfl rfl ?_
  refine aw_fact (h := quoTab p A c l F) mem1 (fun hl hnc hcc hsome hnone hone => ?_)
  have hall : ∀ g1 g2, FSpec Try.prog W 61 [.pointer (some ⟨p, 0, none⟩), .func (.func 62) #[] #[.pointer (some ⟨g1, 0, none⟩), .pointer (some ⟨g2, 0, none⟩)]] (.blk g2 2 [.int .i64 tick] :: .blk g1 2 [.int .i64 ask] :: quoTab p A c l F) _ := fun g1 g2 =>
    quo_all W _ p A c l mem2 (Reads.own mem3 hl hone) hb _ [_, _] (isLive ask tick) (fun x _ => (quo_Live1 W x g1 g2 ask tick).mono (by intro c hc; simp only [List.mem_cons, List.not_mem_nil, or_false] at hc; rcases hc with rfl | rfl <;> simp))
  repeat' (first
    | apply aw_seq | apply aw_region | apply aw_ret | apply aw_skip | apply aw_exit | apply aw_block | apply es_nil
    | (apply es_pure hT; (iterate 4 exact rfl)) | (apply es_skip; (iterate 3 exact rfl)) | (apply es_skip0; (iterate 2 exact rfl))
    | (apply es_i64 hT; (iterate 4 exact rfl); (iterate 2 omega))
    | (apply aw_draw [] [] hmix; decide +kernel)
    | (apply es_call (hs := (hall _ _)); (iterate 7 exact rfl); rintro _ _ ⟨A', c', rfl, rfl, hf⟩)
    | (apply es_load; (iterate 5 exact rfl); first | exact ld_blk hT rfl rfl mem0 rfl rfl | exact ld_all hT rfl rfl mem0 rfl)
    | (apply es_load; (iterate 5 exact rfl); first | exact ld_blk hT rfl rfl mem1 rfl rfl | exact ld_all hT rfl rfl mem1 rfl)
    | (apply es_load; (iterate 5 exact rfl); first | exact ld_blk hT rfl rfl mem2 rfl rfl | exact ld_all hT rfl rfl mem2 rfl)
    | (apply es_box; (iterate 5 exact rfl); intro _) | (apply es_alloc hT; (iterate 5 exact rfl); intro _)
    | (apply aw_condT; (iterate 2 exact rfl)) | (apply aw_condF; (iterate 2 exact rfl))
    | (apply es_case; exact rfl; all_goals intro hb; all_goals (try simp only [hb]); all_goals (first | replace hb := of_decide_eq_true hb | replace hb := of_decide_eq_false hb | replace hb := bne_t hb | replace hb := bne_f hb | skip); all_goals (try (exfalso; omega)))
    | (apply aw_cond; exact rfl; all_goals intro hb; all_goals (try simp only [hb]); all_goals (first | replace hb := of_decide_eq_true hb | replace hb := of_decide_eq_false hb | replace hb := bne_t hb | replace hb := bne_f hb | skip); all_goals (try (exfalso; omega))))
  apply ret1; exact rfl
  exact ⟨.own A' (l.filter (isLive ask tick)).length c' 25 6 ((l.filter (isLive ask tick)).flatMap Quote.enc) :: quoTab p A c l F, by apply dt_cons; (first | exact sel0 | exact sel1 | exact selS sel1 | exact selS (selS sel1) | exact selS (selS (selS sel1)) | exact selS (selS (selS (selS sel1))) | exact selS (selS (selS (selS (selS sel1)))) | exact selS (selS (selS (selS (selS (selS sel1)))))); (repeat (first | exact dt_end | apply dt_skip)), fun w hw => ⟨A', c', rfl, rfl, hf⟩⟩

theorem quo_Of (W : World) (F : List Chunk) (p : Nat) (A : Option Addr) (c : Nat) (l : List Quote) (dealer : Int) (hb : l.length ≤ 1000000) :
    FSpec Try.prog W 17 [.pointer (some ⟨p, 0, none⟩), .int .i64 dealer] (quoTab p A c l F)
      (fun v h' => ∃ A' c', v = .slice A' (l.filter (isOf dealer)).length c' ∧ h' = .own A' (l.filter (isOf dealer)).length c' 25 6 ((l.filter (isOf dealer)).flatMap Quote.enc) :: quoTab p A c l F ∧ OwnF A' (l.filter (isOf dealer)).length c' 6 ((l.filter (isOf dealer)).flatMap Quote.enc)) := by
  refine FSpec.dropF ?_
  refine spec_body Try.func17 rfl rfl Try.results17 Try.ntmps17 rfl rfl ?_
  refine aw_fact (h := quoTab p A c l F) mem1 (fun hl hnc hcc hsome hnone hone => ?_)
  have hall : ∀ g1, FSpec Try.prog W 61 [.pointer (some ⟨p, 0, none⟩), .func (.func 63) #[] #[.pointer (some ⟨g1, 0, none⟩)]] (.blk g1 3 [.int .i64 dealer] :: quoTab p A c l F) _ := fun g1 =>
    quo_all W _ p A c l mem1 (Reads.own mem2 hl hone) hb _ [_] (isOf dealer) (fun x _ => (quo_Of1 W x g1 dealer).mono (by intro c hc; simp only [List.mem_cons, List.not_mem_nil, or_false] at hc; rcases hc with rfl; simp))
  repeat' (first
    | apply aw_seq | apply aw_region | apply aw_ret | apply aw_skip | apply aw_exit | apply aw_block | apply es_nil
    | (apply es_pure hT; (iterate 4 exact rfl)) | (apply es_skip; (iterate 3 exact rfl)) | (apply es_skip0; (iterate 2 exact rfl))
    | (apply es_i64 hT; (iterate 4 exact rfl); (iterate 2 omega))
    | (apply aw_draw [] [] hmix; decide +kernel)
    | (apply es_call (hs := (hall _)); (iterate 7 exact rfl); rintro _ _ ⟨A', c', rfl, rfl, hf⟩)
    | (apply es_load; (iterate 5 exact rfl); first | exact ld_blk hT rfl rfl mem0 rfl rfl | exact ld_all hT rfl rfl mem0 rfl)
    | (apply es_load; (iterate 5 exact rfl); first | exact ld_blk hT rfl rfl mem1 rfl rfl | exact ld_all hT rfl rfl mem1 rfl)
    | (apply es_load; (iterate 5 exact rfl); first | exact ld_blk hT rfl rfl mem2 rfl rfl | exact ld_all hT rfl rfl mem2 rfl)
    | (apply es_box; (iterate 5 exact rfl); intro _) | (apply es_alloc hT; (iterate 5 exact rfl); intro _)
    | (apply aw_condT; (iterate 2 exact rfl)) | (apply aw_condF; (iterate 2 exact rfl))
    | (apply es_case; exact rfl; all_goals intro hb; all_goals (try simp only [hb]); all_goals (first | replace hb := of_decide_eq_true hb | replace hb := of_decide_eq_false hb | replace hb := bne_t hb | replace hb := bne_f hb | skip); all_goals (try (exfalso; omega)))
    | (apply aw_cond; exact rfl; all_goals intro hb; all_goals (try simp only [hb]); all_goals (first | replace hb := of_decide_eq_true hb | replace hb := of_decide_eq_false hb | replace hb := bne_t hb | replace hb := bne_f hb | skip); all_goals (try (exfalso; omega))))
  apply ret1; exact rfl
  exact ⟨.own A' (l.filter (isOf dealer)).length c' 25 6 ((l.filter (isOf dealer)).flatMap Quote.enc) :: quoTab p A c l F, by apply dt_cons; (first | exact sel0 | exact sel1 | exact selS sel1 | exact selS (selS sel1) | exact selS (selS (selS sel1)) | exact selS (selS (selS (selS sel1))) | exact selS (selS (selS (selS (selS sel1)))) | exact selS (selS (selS (selS (selS (selS sel1)))))); (repeat (first | exact dt_end | apply dt_skip)), fun w hw => ⟨A', c', rfl, rfl, hf⟩⟩

/-! ### getting, killing -/
def zeroQ : Quote := ⟨0, 0, 0, 0, 0, false⟩
def getQ (id : Int) (l : List Quote) : Option Quote := if bsB (cQ id) l then l[bsN (cQ id) l]? else none
theorem getQ_some {id : Int} {l : List Quote} (h : bsB (cQ id) l = true) : ∃ x, l[bsN (cQ id) l]? = some x ∧ x.id = id ∧ getQ id l = some x := by
  unfold bsB at h
  split at h
  · rename_i x hx
    refine ⟨x, hx, ?_, ?_⟩
    · have : cQ id x = 0 := by simpa using h
      unfold cQ cmpI at this; split at this <;> (try split at this) <;> omega
    · unfold getQ bsB; rw [hx]; simp only at h ⊢; rw [if_pos h]
  · cases h
theorem getQ_none {id : Int} {l : List Quote} (h : bsB (cQ id) l = false) : getQ id l = none := by unfold getQ; rw [h]; rfl
def killQ (id : Int) (l : List Quote) : List Quote := match getQ id l with
  | some x => l.set (bsN (cQ id) l) { x with live := false }
  | none => l
def getV (o : Option Quote) : Value := match o with
  | some x => .tuple #[.agg x.enc.toArray, .bool true]
  | none => .tuple #[.agg zeroQ.enc.toArray, .bool false]

theorem quo_Get (W : World) (p : Nat) (A : Option Addr) (c : Nat) (l : List Quote) (id : Int) (hb : l.length ≤ 1000000) (hup : upQ l) :
    QSpec Try.prog W 34 [.pointer (some ⟨p, 0, none⟩), .int .i64 id] (quoTab p A c l []) (getV (getQ id l)) := by
  refine QSpec.ofD (fun h' hs => ?_)
  have m1 := hs _ mem0
  have m2 := hs _ mem1
  refine spec_body Try.func34 rfl rfl Try.results34 Try.ntmps34 rfl rfl ?_
  refine aw_fact m2 (fun hl hnc hcc hsome hnone hone => ?_)
  have hr : Reads W h' A l.length 6 (l.flatMap Quote.enc) := Reads.own m2 hl hone
  have hfind := (quo_find W p A c l id hb hup).mono (h' := h') hs
  unfold findV at hfind
  cases hB : bsB (cQ id) l
  · rw [hB] at hfind
    repeat' (first
      | apply aw_seq | apply aw_region | apply aw_ret | apply aw_skip | apply aw_exit | apply aw_block | apply es_nil
      | (apply es_pure hT; (iterate 4 exact rfl)) | (apply es_skip; (iterate 3 exact rfl)) | (apply es_skip0; (iterate 2 exact rfl))
      | (apply es_i64 hT; (iterate 4 exact rfl); (iterate 2 omega))
      | (apply aw_draw [] [] hmix; decide +kernel)
      | (apply es_alloc hT; (iterate 5 exact rfl); intro g4)
      | (apply es_callQ (hs := (hfind.mono (fun c hc => .tail _ hc))); (iterate 7 exact rfl))
      | (apply es_build hT; (iterate 4 exact rfl))
      | (apply es_store hT; (iterate 6 exact rfl); (first | exact sel0 | exact sel1 | exact selS sel1 | exact selS (selS sel1) | exact selS (selS (selS sel1)) | exact selS (selS (selS (selS sel1))) | exact selS (selS (selS (selS (selS sel1)))) | exact selS (selS (selS (selS (selS (selS sel1)))))); (iterate 3 exact rfl); exact Nat.le_of_ble_eq_true rfl)
      | (apply es_load; (iterate 5 exact rfl); first | exact ld_blk hT rfl rfl mem0 rfl rfl | exact ld_all hT rfl rfl mem0 rfl)
      | (apply es_load; (iterate 5 exact rfl); first | exact ld_blk hT rfl rfl mem1 rfl rfl | exact ld_all hT rfl rfl mem1 rfl)
      | (apply es_load; (iterate 5 exact rfl); first | exact ld_blk hT rfl rfl mem2 rfl rfl | exact ld_all hT rfl rfl mem2 rfl)
      | (apply es_box; (iterate 5 exact rfl); intro _) | (apply es_alloc hT; (iterate 5 exact rfl); intro _)
      | (apply aw_condT; (iterate 2 exact rfl)) | (apply aw_condF; (iterate 2 exact rfl))
      | (apply es_case; exact rfl; all_goals intro hb; all_goals (try simp only [hb]); all_goals (first | replace hb := of_decide_eq_true hb | replace hb := of_decide_eq_false hb | replace hb := bne_t hb | replace hb := bne_f hb | skip); all_goals (try (exfalso; omega)))
      | (apply aw_cond; exact rfl; all_goals intro hb; all_goals (try simp only [hb]); all_goals (first | replace hb := of_decide_eq_true hb | replace hb := of_decide_eq_false hb | replace hb := bne_t hb | replace hb := bne_f hb | skip); all_goals (try (exfalso; omega))))
    apply ret2c; exact rfl; exact ld_all hT rfl rfl mem0 rfl; exact rfl
    exact ⟨by rw [getQ_none hB]; rfl, dt_skip dt_end⟩
  · obtain ⟨x, hx, _, hg⟩ := getQ_some hB
    rw [hB] at hfind
    have hlt := (List.getElem?_eq_some_iff.1 hx).1
    have hx2 : l[((bsN (cQ id) l : Nat) : Int).toNat]? = some x := by simpa using hx
    obtain ⟨g, hA⟩ := hsome (by omega)
    have hA2 : A.isSome = true := by rw [hA]; rfl
    repeat' (first
      | apply aw_seq | apply aw_region | apply aw_ret | apply aw_skip | apply aw_exit | apply aw_block | apply es_nil
      | (apply es_pure hT; (iterate 4 exact rfl)) | (apply es_skip; (iterate 3 exact rfl)) | (apply es_skip0; (iterate 2 exact rfl))
      | (apply es_i64 hT; (iterate 4 exact rfl); (iterate 2 omega))
      | (apply aw_draw [] [] hmix; decide +kernel)
      | (apply es_alloc hT; (iterate 5 exact rfl); intro g4)
      | (apply es_callQ (hs := (hfind.mono (fun c hc => .tail _ hc))); (iterate 7 exact rfl))
      | (apply es_idx hT; (iterate 8 exact rfl); (iterate 2 omega); exact hA2)
      | (apply es_load; (iterate 5 exact rfl); exact ld_elem hT rfl rfl hr.cons Quote.enc_len rfl hx2 rfl)
      | (apply es_store hT; (iterate 6 exact rfl); (first | exact sel0 | exact sel1 | exact selS sel1 | exact selS (selS sel1) | exact selS (selS (selS sel1)) | exact selS (selS (selS (selS sel1))) | exact selS (selS (selS (selS (selS sel1)))) | exact selS (selS (selS (selS (selS (selS sel1)))))); (iterate 3 exact rfl); exact Nat.le_of_ble_eq_true rfl)
      | (apply es_load; (iterate 5 exact rfl); first | exact ld_blk hT rfl rfl mem0 rfl rfl | exact ld_all hT rfl rfl mem0 rfl)
      | (apply es_load; (iterate 5 exact rfl); first | exact ld_blk hT rfl rfl mem1 rfl rfl | exact ld_all hT rfl rfl mem1 rfl)
      | (apply es_load; (iterate 5 exact rfl); first | exact ld_blk hT rfl rfl mem2 rfl rfl | exact ld_all hT rfl rfl mem2 rfl)
      | (apply es_load; (iterate 5 exact rfl); first | exact ld_blk hT rfl rfl m1 rfl rfl | exact ld_all hT rfl rfl m1 rfl)
      | (apply es_load; (iterate 5 exact rfl); first | exact ld_blk hT rfl rfl (List.mem_cons_of_mem _ m1) rfl rfl | exact ld_all hT rfl rfl (List.mem_cons_of_mem _ m1) rfl)
      | (apply es_load; (iterate 5 exact rfl); first | exact ld_blk hT rfl rfl (List.mem_cons_of_mem _ (List.mem_cons_of_mem _ m1)) rfl rfl | exact ld_all hT rfl rfl (List.mem_cons_of_mem _ (List.mem_cons_of_mem _ m1)) rfl)
      | (apply es_box; (iterate 5 exact rfl); intro _) | (apply es_alloc hT; (iterate 5 exact rfl); intro _)
      | (apply aw_condT; (iterate 2 exact rfl)) | (apply aw_condF; (iterate 2 exact rfl))
      | (apply es_case; exact rfl; all_goals intro hb; all_goals (try simp only [hb]); all_goals (first | replace hb := of_decide_eq_true hb | replace hb := of_decide_eq_false hb | replace hb := bne_t hb | replace hb := bne_f hb | skip); all_goals (try (exfalso; omega)))
      | (apply aw_cond; exact rfl; all_goals intro hb; all_goals (try simp only [hb]); all_goals (first | replace hb := of_decide_eq_true hb | replace hb := of_decide_eq_false hb | replace hb := bne_t hb | replace hb := bne_f hb | skip); all_goals (try (exfalso; omega))))
    apply ret2c; exact rfl; exact ld_all hT rfl rfl mem0 rfl; exact rfl
    exact ⟨by rw [hg]; rfl, dt_skip dt_end⟩

theorem quo_Kill (W : World) (F : List Chunk) (p : Nat) (A : Option Addr) (c : Nat) (l : List Quote) (id : Int) (hb : l.length ≤ 1000000) (hup : upQ l) :
    FSpec Try.prog W 32 [.pointer (some ⟨p, 0, none⟩), .int .i64 id] (quoTab p A c l F) (fun v h' => v = .bool ((getQ id l).any (·.live)) ∧ h' = quoTab p A c (killQ id l) F) := by
  refine FSpec.dropTo ?_
  refine spec_body Try.func32 rfl rfl Try.results32 Try.ntmps32 rfl rfl ?_
  refine aw_fact (h := quoTab p A c l F) mem1 (fun hl hnc hcc hsome hnone hone => ?_)
  have hr : Reads W (quoTab p A c l F) A l.length 6 (l.flatMap Quote.enc) := Reads.own mem1 hl hone
  have hfind := (quo_find W p A c l id hb hup).mono (h' := quoTab p A c l F) (by intro c hc; simp only [quoTab, List.mem_cons, List.not_mem_nil, or_false] at hc ⊢; rcases hc with rfl | rfl <;> simp)
  unfold findV at hfind
  cases hB : bsB (cQ id) l
  · rw [hB] at hfind
    repeat' (first
      | apply aw_seq | apply aw_region | apply aw_ret | apply aw_skip | apply aw_exit | apply aw_block | apply es_nil
      | (apply es_pure hT; (iterate 4 exact rfl)) | (apply es_skip; (iterate 3 exact rfl)) | (apply es_skip0; (iterate 2 exact rfl))
      | (apply es_i64 hT; (iterate 4 exact rfl); (iterate 2 omega))
      | (apply aw_draw [] [] hmix; decide +kernel)
      | (apply es_callQ (hs := hfind); (iterate 7 exact rfl))
      | (apply es_load; (iterate 5 exact rfl); first | exact ld_blk hT rfl rfl mem0 rfl rfl | exact ld_all hT rfl rfl mem0 rfl)
      | (apply es_load; (iterate 5 exact rfl); first | exact ld_blk hT rfl rfl mem1 rfl rfl | exact ld_all hT rfl rfl mem1 rfl)
      | (apply es_load; (iterate 5 exact rfl); first | exact ld_blk hT rfl rfl mem2 rfl rfl | exact ld_all hT rfl rfl mem2 rfl)
      | (apply es_box; (iterate 5 exact rfl); intro _) | (apply es_alloc hT; (iterate 5 exact rfl); intro _)
      | (apply aw_condT; (iterate 2 exact rfl)) | (apply aw_condF; (iterate 2 exact rfl))
      | (apply es_case; exact rfl; all_goals intro hb; all_goals (try simp only [hb]); all_goals (first | replace hb := of_decide_eq_true hb | replace hb := of_decide_eq_false hb | replace hb := bne_t hb | replace hb := bne_f hb | skip); all_goals (try (exfalso; omega)))
      | (apply aw_cond; exact rfl; all_goals intro hb; all_goals (try simp only [hb]); all_goals (first | replace hb := of_decide_eq_true hb | replace hb := of_decide_eq_false hb | replace hb := bne_t hb | replace hb := bne_f hb | skip); all_goals (try (exfalso; omega))))
    apply ret1; exact rfl
    exact ⟨_, dt_end, by rw [getQ_none hB]; rfl, by rw [killQ, getQ_none hB]⟩
  · obtain ⟨x, hx, _, hg⟩ := getQ_some hB
    rw [hB] at hfind
    have hlt := (List.getElem?_eq_some_iff.1 hx).1
    have hx2 : l[((bsN (cQ id) l : Nat) : Int).toNat]? = some x := by simpa using hx
    obtain ⟨g, hA⟩ := hsome (by omega)
    have hA2 : A.isSome = true := by rw [hA]; rfl
    have hlay : lay (l.flatMap Quote.enc) (bsN (cQ id) l * 6 + 5) [.bool false] = (l.set (bsN (cQ id) l) { x with live := false }).flatMap Quote.enc := flat_lay Quote.enc_len hx (Nat.le_of_ble_eq_true rfl) rfl
    cases hlv : x.live
    · repeat' (first
        | apply aw_seq | apply aw_region | apply aw_ret | apply aw_skip | apply aw_exit | apply aw_block | apply es_nil
        | (apply es_pure hT; (iterate 4 exact rfl)) | (apply es_skip; (iterate 3 exact rfl)) | (apply es_skip0; (iterate 2 exact rfl))
        | (apply es_i64 hT; (iterate 4 exact rfl); (iterate 2 omega))
        | (apply aw_draw [] [] hmix; decide +kernel)
        | (apply es_callQ (hs := hfind); (iterate 7 exact rfl))
        | (apply es_idx hT; (iterate 8 exact rfl); (iterate 2 omega); exact hA2)
        | (apply es_load; (iterate 5 exact rfl); exact ld_fld hT rfl rfl hr Quote.enc_len (adr_add _ _ _) hx2 (by decide) (show (Quote.enc x)[5]? = some (.bool false) by rw [← hlv]; rfl))
        | (apply es_load; (iterate 5 exact rfl); first | exact ld_blk hT rfl rfl mem0 rfl rfl | exact ld_all hT rfl rfl mem0 rfl)
        | (apply es_load; (iterate 5 exact rfl); first | exact ld_blk hT rfl rfl mem1 rfl rfl | exact ld_all hT rfl rfl mem1 rfl)
        | (apply es_load; (iterate 5 exact rfl); first | exact ld_blk hT rfl rfl mem2 rfl rfl | exact ld_all hT rfl rfl mem2 rfl)
        | (apply es_load; (iterate 5 exact rfl); first | exact ld_blk hT rfl rfl mem0 rfl rfl | exact ld_all hT rfl rfl mem0 rfl)
        | (apply es_load; (iterate 5 exact rfl); first | exact ld_blk hT rfl rfl (List.mem_cons_of_mem _ mem0) rfl rfl | exact ld_all hT rfl rfl (List.mem_cons_of_mem _ mem0) rfl)
        | (apply es_box; (iterate 5 exact rfl); intro _) | (apply es_alloc hT; (iterate 5 exact rfl); intro _)
        | (apply aw_condT; (iterate 2 exact rfl)) | (apply aw_condF; (iterate 2 exact rfl))
        | (apply es_case; exact rfl; all_goals intro hb; all_goals (try simp only [hb]); all_goals (first | replace hb := of_decide_eq_true hb | replace hb := of_decide_eq_false hb | replace hb := bne_t hb | replace hb := bne_f hb | skip); all_goals (try (exfalso; omega)))
        | (apply aw_cond; exact rfl; all_goals intro hb; all_goals (try simp only [hb]); all_goals (first | replace hb := of_decide_eq_true hb | replace hb := of_decide_eq_false hb | replace hb := bne_t hb | replace hb := bne_f hb | skip); all_goals (try (exfalso; omega))))
      apply ret1; exact rfl
      refine ⟨_, dt_end, by rw [hg]; simp [hlv], ?_⟩
      rw [killQ, hg]
      have : l.set (bsN (cQ id) l) { x with live := false } = l := by
        have e : ({ x with live := false } : Quote) = x := by rw [← hlv]
        rw [e]; exact set_same hx
      simp only [this]
    · repeat' (first
        | apply aw_seq | apply aw_region | apply aw_ret | apply aw_skip | apply aw_exit | apply aw_block | apply es_nil
        | (apply es_pure hT; (iterate 4 exact rfl)) | (apply es_skip; (iterate 3 exact rfl)) | (apply es_skip0; (iterate 2 exact rfl))
        | (apply es_i64 hT; (iterate 4 exact rfl); (iterate 2 omega))
        | (apply aw_draw [] [] hmix; decide +kernel)
        | (apply es_callQ (hs := hfind); (iterate 7 exact rfl))
        | (apply es_idx hT; (iterate 8 exact rfl); (iterate 2 omega); exact hA2)
        | (apply es_load; (iterate 5 exact rfl); exact ld_fld hT rfl rfl hr Quote.enc_len (adr_add _ _ _) hx2 (by decide) (show (Quote.enc x)[5]? = some (.bool true) by rw [← hlv]; rfl))
        | (apply es_storeRow hT; (iterate 6 exact rfl); exact sel1; exact adr_add _ _ _; exact rfl; exact rfl; (show (bsN (cQ id) l * 6 + 5) + 1 ≤ l.length * 6; omega); omega)
        | (apply es_load; (iterate 5 exact rfl); first | exact ld_blk hT rfl rfl mem0 rfl rfl | exact ld_all hT rfl rfl mem0 rfl)
        | (apply es_load; (iterate 5 exact rfl); first | exact ld_blk hT rfl rfl mem1 rfl rfl | exact ld_all hT rfl rfl mem1 rfl)
        | (apply es_load; (iterate 5 exact rfl); first | exact ld_blk hT rfl rfl mem2 rfl rfl | exact ld_all hT rfl rfl mem2 rfl)
        | (apply es_load; (iterate 5 exact rfl); first | exact ld_blk hT rfl rfl mem0 rfl rfl | exact ld_all hT rfl rfl mem0 rfl)
        | (apply es_load; (iterate 5 exact rfl); first | exact ld_blk hT rfl rfl (List.mem_cons_of_mem _ mem0) rfl rfl | exact ld_all hT rfl rfl (List.mem_cons_of_mem _ mem0) rfl)
        | (apply es_box; (iterate 5 exact rfl); intro _) | (apply es_alloc hT; (iterate 5 exact rfl); intro _)
        | (apply aw_condT; (iterate 2 exact rfl)) | (apply aw_condF; (iterate 2 exact rfl))
        | (apply es_case; exact rfl; all_goals intro hb; all_goals (try simp only [hb]); all_goals (first | replace hb := of_decide_eq_true hb | replace hb := of_decide_eq_false hb | replace hb := bne_t hb | replace hb := bne_f hb | skip); all_goals (try (exfalso; omega)))
        | (apply aw_cond; exact rfl; all_goals intro hb; all_goals (try simp only [hb]); all_goals (first | replace hb := of_decide_eq_true hb | replace hb := of_decide_eq_false hb | replace hb := bne_t hb | replace hb := bne_f hb | skip); all_goals (try (exfalso; omega))))
      apply ret1; exact rfl
      refine ⟨quoTab p A c (killQ id l) F, ?_, by rw [hg]; simp [hlv], rfl⟩
      rw [killQ, hg]
      show DropTo _ (.blk p 101 [.slice A (l.set (bsN (cQ id) l) { x with live := false }).length c] :: .own A (l.set (bsN (cQ id) l) { x with live := false }).length c 25 6 ((l.set (bsN (cQ id) l) { x with live := false }).flatMap Quote.enc) :: F)
      rw [← hlay, List.length_set]
      apply dt_cons; (first | exact sel0 | exact sel1 | exact selS sel1 | exact selS (selS sel1) | exact selS (selS (selS sel1)) | exact selS (selS (selS (selS sel1))) | exact selS (selS (selS (selS (selS sel1)))) | exact selS (selS (selS (selS (selS (selS sel1))))))
      apply dt_cons; (first | exact sel0 | exact sel1 | exact selS sel1 | exact selS (selS sel1) | exact selS (selS (selS sel1)) | exact selS (selS (selS (selS sel1))) | exact selS (selS (selS (selS (selS sel1)))) | exact selS (selS (selS (selS (selS (selS sel1))))))
      (repeat (first | exact dt_end | apply dt_skip))

def pullE (id dealer : Int) (l : List Quote) : Int := match getQ id l with
  | none => 4
  | some x => if x.dealer = dealer then (if x.live then 0 else 12) else 5
def pullQ (id dealer : Int) (l : List Quote) : List Quote := if pullE id dealer l = 0 ∨ pullE id dealer l = 12 then killQ id l else l
theorem quo_Pull (W : World) (F : List Chunk) (p : Nat) (A : Option Addr) (c : Nat) (l : List Quote) (id dealer : Int) (hb : l.length ≤ 1000000) (hup : upQ l) :
    FSpec Try.prog W 31 [.pointer (some ⟨p, 0, none⟩), .int .i64 id, .int .i64 dealer] (quoTab p A c l F) (fun v h' => v = .int .i64 (pullE id dealer l) ∧ h' = quoTab p A c (pullQ id dealer l) F) := by
  refine FSpec.dropTo ?_
  refine spec_body Try.func31 rfl rfl Try.results31 Try.ntmps31 rfl rfl ?_
  have hget := (quo_Get W p A c l id hb hup).mono (h' := quoTab p A c l F) (by intro c hc; simp only [quoTab, List.mem_cons, List.not_mem_nil, or_false] at hc ⊢; rcases hc with rfl | rfl <;> simp)
  cases hg : getQ id l with
  | none =>
    rw [hg] at hget
    repeat' (first
      | apply aw_seq | apply aw_region | apply aw_ret | apply aw_skip | apply aw_exit | apply aw_block | apply es_nil
      | (apply es_pure hT; (iterate 4 exact rfl)) | (apply es_skip; (iterate 3 exact rfl)) | (apply es_skip0; (iterate 2 exact rfl))
      | (apply es_i64 hT; (iterate 4 exact rfl); (iterate 2 omega))
      | (apply aw_draw [] [] hmix; decide +kernel)
      | (apply es_callQ (hs := hget); (iterate 7 exact rfl))
      | (apply es_alloc hT; (iterate 5 exact rfl); intro g7)
      | (apply es_store hT; (iterate 6 exact rfl); exact sel0; (iterate 3 exact rfl); exact Nat.le_of_ble_eq_true rfl)
      | (apply es_load; (iterate 5 exact rfl); first | exact ld_blk hT rfl rfl mem0 rfl rfl | exact ld_all hT rfl rfl mem0 rfl)
      | (apply es_load; (iterate 5 exact rfl); first | exact ld_blk hT rfl rfl mem1 rfl rfl | exact ld_all hT rfl rfl mem1 rfl)
      | (apply es_load; (iterate 5 exact rfl); first | exact ld_blk hT rfl rfl mem2 rfl rfl | exact ld_all hT rfl rfl mem2 rfl)
      | (apply es_load; (iterate 5 exact rfl); first | exact ld_blk hT rfl rfl mem0 rfl rfl | exact ld_all hT rfl rfl mem0 rfl)
      | (apply es_load; (iterate 5 exact rfl); first | exact ld_blk hT rfl rfl (List.mem_cons_of_mem _ mem0) rfl rfl | exact ld_all hT rfl rfl (List.mem_cons_of_mem _ mem0) rfl)
      | (apply es_load; (iterate 5 exact rfl); first | exact ld_blk hT rfl rfl mem1 rfl rfl | exact ld_all hT rfl rfl mem1 rfl)
      | (apply es_load; (iterate 5 exact rfl); first | exact ld_blk hT rfl rfl (List.mem_cons_of_mem _ mem1) rfl rfl | exact ld_all hT rfl rfl (List.mem_cons_of_mem _ mem1) rfl)
      | (apply es_box; (iterate 5 exact rfl); intro _) | (apply es_alloc hT; (iterate 5 exact rfl); intro _)
      | (apply aw_condT; (iterate 2 exact rfl)) | (apply aw_condF; (iterate 2 exact rfl))
      | (apply es_case; exact rfl; all_goals intro hb; all_goals (try simp only [hb]); all_goals (first | replace hb := of_decide_eq_true hb | replace hb := of_decide_eq_false hb | replace hb := bne_t hb | replace hb := bne_f hb | skip); all_goals (try (exfalso; omega)))
      | (apply aw_cond; exact rfl; all_goals intro hb; all_goals (try simp only [hb]); all_goals (first | replace hb := of_decide_eq_true hb | replace hb := of_decide_eq_false hb | replace hb := bne_t hb | replace hb := bne_f hb | skip); all_goals (try (exfalso; omega))))
    apply ret1; exact rfl
    exact ⟨quoTab p A c l F, dt_skip dt_end, by simp [pullE, hg], by simp [pullQ, pullE, hg]⟩
  | some x =>
    rw [hg] at hget
    by_cases hd : x.dealer = dealer
    · have hd1 : (x.dealer != dealer) = false := by simpa using hd
      have hkill : ∀ g, FSpec Try.prog W 32 [.pointer (some ⟨p, 0, none⟩), .int .i64 id] (.blk g 25 x.enc :: quoTab p A c l F) (fun v h' => v = .bool x.live ∧ h' = quoTab p A c (killQ id l) (.blk g 25 x.enc :: F)) := fun g =>
        ((quo_Kill W (.blk g 25 x.enc :: F) p A c l id hb hup).perm (selS (selS sel0)).symm).mono (fun v h' h => by rw [hg] at h; simpa using h)
      cases hlv : x.live
      · rw [hlv] at hkill
        repeat' (first
          | apply aw_seq | apply aw_region | apply aw_ret | apply aw_skip | apply aw_exit | apply aw_block | apply es_nil
          | (apply es_pure hT; (iterate 4 exact rfl)) | (apply es_skip; (iterate 3 exact rfl)) | (apply es_skip0; (iterate 2 exact rfl))
          | (apply es_i64 hT; (iterate 4 exact rfl); (iterate 2 omega))
          | (apply aw_draw [] [] hmix; decide +kernel)
          | (apply es_callQ (hs := hget); (iterate 7 exact rfl))
          | (apply es_alloc hT; (iterate 5 exact rfl); intro g7)
          | (apply es_store hT; (iterate 6 exact rfl); exact sel0; (iterate 3 exact rfl); exact Nat.le_of_ble_eq_true rfl)
          | (apply es_call (hs := (hkill _)); (iterate 7 exact rfl); rintro _ _ ⟨rfl, rfl⟩)
          | (apply es_load; (iterate 5 exact rfl); first | exact ld_blk hT rfl rfl mem0 rfl rfl | exact ld_all hT rfl rfl mem0 rfl)
          | (apply es_load; (iterate 5 exact rfl); first | exact ld_blk hT rfl rfl mem1 rfl rfl | exact ld_all hT rfl rfl mem1 rfl)
          | (apply es_load; (iterate 5 exact rfl); first | exact ld_blk hT rfl rfl mem2 rfl rfl | exact ld_all hT rfl rfl mem2 rfl)
          | (apply es_load; (iterate 5 exact rfl); first | exact ld_blk hT rfl rfl mem0 rfl rfl | exact ld_all hT rfl rfl mem0 rfl)
          | (apply es_load; (iterate 5 exact rfl); first | exact ld_blk hT rfl rfl (List.mem_cons_of_mem _ mem0) rfl rfl | exact ld_all hT rfl rfl (List.mem_cons_of_mem _ mem0) rfl)
          | (apply es_load; (iterate 5 exact rfl); first | exact ld_blk hT rfl rfl mem1 rfl rfl | exact ld_all hT rfl rfl mem1 rfl)
          | (apply es_load; (iterate 5 exact rfl); first | exact ld_blk hT rfl rfl (List.mem_cons_of_mem _ mem1) rfl rfl | exact ld_all hT rfl rfl (List.mem_cons_of_mem _ mem1) rfl)
          | (apply es_box; (iterate 5 exact rfl); intro _) | (apply es_alloc hT; (iterate 5 exact rfl); intro _)
          | (apply aw_condT; (iterate 2 exact rfl)) | (apply aw_condF; (iterate 2 exact rfl))
          | (apply es_case; exact rfl; all_goals intro hb; all_goals (try simp only [hb]); all_goals (first | replace hb := of_decide_eq_true hb | replace hb := of_decide_eq_false hb | replace hb := bne_t hb | replace hb := bne_f hb | skip); all_goals (try (exfalso; omega)))
          | (apply aw_cond; exact rfl; all_goals intro hb; all_goals (try simp only [hb]); all_goals (first | replace hb := of_decide_eq_true hb | replace hb := of_decide_eq_false hb | replace hb := bne_t hb | replace hb := bne_f hb | skip); all_goals (try (exfalso; omega))))
        apply ret1; exact rfl
        exact ⟨quoTab p A c (killQ id l) F, by apply dt_cons; (first | exact sel0 | exact sel1 | exact selS sel1 | exact selS (selS sel1) | exact selS (selS (selS sel1)) | exact selS (selS (selS (selS sel1))) | exact selS (selS (selS (selS (selS sel1)))) | exact selS (selS (selS (selS (selS (selS sel1)))))); apply dt_cons; (first | exact sel0 | exact sel1 | exact selS sel1 | exact selS (selS sel1) | exact selS (selS (selS sel1)) | exact selS (selS (selS (selS sel1))) | exact selS (selS (selS (selS (selS sel1)))) | exact selS (selS (selS (selS (selS (selS sel1)))))); (repeat (first | exact dt_end | apply dt_skip)), by simp [pullE, hg, hd, hlv], by simp [pullQ, pullE, hg, hd, hlv]⟩
      · rw [hlv] at hkill
        repeat' (first
          | apply aw_seq | apply aw_region | apply aw_ret | apply aw_skip | apply aw_exit | apply aw_block | apply es_nil
          | (apply es_pure hT; (iterate 4 exact rfl)) | (apply es_skip; (iterate 3 exact rfl)) | (apply es_skip0; (iterate 2 exact rfl))
          | (apply es_i64 hT; (iterate 4 exact rfl); (iterate 2 omega))
          | (apply aw_draw [] [] hmix; decide +kernel)
          | (apply es_callQ (hs := hget); (iterate 7 exact rfl))
          | (apply es_alloc hT; (iterate 5 exact rfl); intro g7)
          | (apply es_store hT; (iterate 6 exact rfl); exact sel0; (iterate 3 exact rfl); exact Nat.le_of_ble_eq_true rfl)
          | (apply es_call (hs := (hkill _)); (iterate 7 exact rfl); rintro _ _ ⟨rfl, rfl⟩)
          | (apply es_load; (iterate 5 exact rfl); first | exact ld_blk hT rfl rfl mem0 rfl rfl | exact ld_all hT rfl rfl mem0 rfl)
          | (apply es_load; (iterate 5 exact rfl); first | exact ld_blk hT rfl rfl mem1 rfl rfl | exact ld_all hT rfl rfl mem1 rfl)
          | (apply es_load; (iterate 5 exact rfl); first | exact ld_blk hT rfl rfl mem2 rfl rfl | exact ld_all hT rfl rfl mem2 rfl)
          | (apply es_load; (iterate 5 exact rfl); first | exact ld_blk hT rfl rfl mem0 rfl rfl | exact ld_all hT rfl rfl mem0 rfl)
          | (apply es_load; (iterate 5 exact rfl); first | exact ld_blk hT rfl rfl (List.mem_cons_of_mem _ mem0) rfl rfl | exact ld_all hT rfl rfl (List.mem_cons_of_mem _ mem0) rfl)
          | (apply es_load; (iterate 5 exact rfl); first | exact ld_blk hT rfl rfl mem1 rfl rfl | exact ld_all hT rfl rfl mem1 rfl)
          | (apply es_load; (iterate 5 exact rfl); first | exact ld_blk hT rfl rfl (List.mem_cons_of_mem _ mem1) rfl rfl | exact ld_all hT rfl rfl (List.mem_cons_of_mem _ mem1) rfl)
          | (apply es_box; (iterate 5 exact rfl); intro _) | (apply es_alloc hT; (iterate 5 exact rfl); intro _)
          | (apply aw_condT; (iterate 2 exact rfl)) | (apply aw_condF; (iterate 2 exact rfl))
          | (apply es_case; exact rfl; all_goals intro hb; all_goals (try simp only [hb]); all_goals (first | replace hb := of_decide_eq_true hb | replace hb := of_decide_eq_false hb | replace hb := bne_t hb | replace hb := bne_f hb | skip); all_goals (try (exfalso; omega)))
          | (apply aw_cond; exact rfl; all_goals intro hb; all_goals (try simp only [hb]); all_goals (first | replace hb := of_decide_eq_true hb | replace hb := of_decide_eq_false hb | replace hb := bne_t hb | replace hb := bne_f hb | skip); all_goals (try (exfalso; omega))))
        apply ret1; exact rfl
        exact ⟨quoTab p A c (killQ id l) F, by apply dt_cons; (first | exact sel0 | exact sel1 | exact selS sel1 | exact selS (selS sel1) | exact selS (selS (selS sel1)) | exact selS (selS (selS (selS sel1))) | exact selS (selS (selS (selS (selS sel1)))) | exact selS (selS (selS (selS (selS (selS sel1)))))); apply dt_cons; (first | exact sel0 | exact sel1 | exact selS sel1 | exact selS (selS sel1) | exact selS (selS (selS sel1)) | exact selS (selS (selS (selS sel1))) | exact selS (selS (selS (selS (selS sel1)))) | exact selS (selS (selS (selS (selS (selS sel1)))))); (repeat (first | exact dt_end | apply dt_skip)), by simp [pullE, hg, hd, hlv], by simp [pullQ, pullE, hg, hd, hlv]⟩
    · have hd1 : (x.dealer != dealer) = true := by simpa using hd
      repeat' (first
        | apply aw_seq | apply aw_region | apply aw_ret | apply aw_skip | apply aw_exit | apply aw_block | apply es_nil
        | (apply es_pure hT; (iterate 4 exact rfl)) | (apply es_skip; (iterate 3 exact rfl)) | (apply es_skip0; (iterate 2 exact rfl))
        | (apply es_i64 hT; (iterate 4 exact rfl); (iterate 2 omega))
        | (apply aw_draw [] [] hmix; decide +kernel)
        | (apply es_callQ (hs := hget); (iterate 7 exact rfl))
        | (apply es_alloc hT; (iterate 5 exact rfl); intro g7)
        | (apply es_store hT; (iterate 6 exact rfl); exact sel0; (iterate 3 exact rfl); exact Nat.le_of_ble_eq_true rfl)
        | (apply es_load; (iterate 5 exact rfl); first | exact ld_blk hT rfl rfl mem0 rfl rfl | exact ld_all hT rfl rfl mem0 rfl)
        | (apply es_load; (iterate 5 exact rfl); first | exact ld_blk hT rfl rfl mem1 rfl rfl | exact ld_all hT rfl rfl mem1 rfl)
        | (apply es_load; (iterate 5 exact rfl); first | exact ld_blk hT rfl rfl mem2 rfl rfl | exact ld_all hT rfl rfl mem2 rfl)
        | (apply es_load; (iterate 5 exact rfl); first | exact ld_blk hT rfl rfl mem0 rfl rfl | exact ld_all hT rfl rfl mem0 rfl)
        | (apply es_load; (iterate 5 exact rfl); first | exact ld_blk hT rfl rfl (List.mem_cons_of_mem _ mem0) rfl rfl | exact ld_all hT rfl rfl (List.mem_cons_of_mem _ mem0) rfl)
        | (apply es_load; (iterate 5 exact rfl); first | exact ld_blk hT rfl rfl mem1 rfl rfl | exact ld_all hT rfl rfl mem1 rfl)
        | (apply es_load; (iterate 5 exact rfl); first | exact ld_blk hT rfl rfl (List.mem_cons_of_mem _ mem1) rfl rfl | exact ld_all hT rfl rfl (List.mem_cons_of_mem _ mem1) rfl)
        | (apply es_box; (iterate 5 exact rfl); intro _) | (apply es_alloc hT; (iterate 5 exact rfl); intro _)
        | (apply aw_condT; (iterate 2 exact rfl)) | (apply aw_condF; (iterate 2 exact rfl))
        | (apply es_case; exact rfl; all_goals intro hb; all_goals (try simp only [hb]); all_goals (first | replace hb := of_decide_eq_true hb | replace hb := of_decide_eq_false hb | replace hb := bne_t hb | replace hb := bne_f hb | skip); all_goals (try (exfalso; omega)))
        | (apply aw_cond; exact rfl; all_goals intro hb; all_goals (try simp only [hb]); all_goals (first | replace hb := of_decide_eq_true hb | replace hb := of_decide_eq_false hb | replace hb := bne_t hb | replace hb := bne_f hb | skip); all_goals (try (exfalso; omega))))
      apply ret1; exact rfl
      exact ⟨quoTab p A c l F, dt_skip dt_end, by simp [pullE, hg, hd], by simp [pullQ, pullE, hg, hd]⟩

/-! ### putting -/
def metQ (q x : Quote) : Bool := x.ask == q.ask && x.dealer == q.dealer && x.live
def offQ (q x : Quote) : Quote := if metQ q x then { x with live := false } else x
def oldQ (q : Quote) (l : List Quote) : Int := l.foldl (fun o x => if metQ q x then x.id else o) 0
def badQ (q : Quote) (l : List Quote) : Bool := bsB (cQ q.id) l || decide (q.id < 1) || decide (q.ask < 1) || decide (q.price < 1) || decide (q.dealer < 0) || !q.live
def putQ (q : Quote) (l : List Quote) : List Quote := if badQ q l then l else (l.map (offQ q)).take (bsN (cQ q.id) l) ++ [q] ++ (l.map (offQ q)).drop (bsN (cQ q.id) l)
def putV (q : Quote) (l : List Quote) : Value := if badQ q l then .tuple #[.int .i64 0, .int .i64 1] else .tuple #[.int .i64 (oldQ q l), .int .i64 0]

set_option maxHeartbeats 1000000 in
theorem quo_Put (W : World) (F : List Chunk) (p : Nat) (A : Option Addr) (c : Nat) (l : List Quote) (q : Quote) (hb : l.length ≤ 1000000) (hup : upQ l) :
    FSpec Try.prog W 15 [.pointer (some ⟨p, 0, none⟩), .agg q.enc.toArray] (quoTab p A c l F) (fun v h' => v = putV q l ∧ ∃ A' c', h' = quoTab p A' c' (putQ q l) F) := by
  refine FSpec.dropTo ?_
  refine spec_body Try.func15 rfl rfl Try.results15 Try.ntmps15 rfl rfl ?_
  refine aw_fact (h := quoTab p A c l F) mem1 (fun hl hnc hcc hsome hnone hone => ?_)
  have hfind : ∀ g, QSpec Try.prog W 59 [.pointer (some ⟨p, 0, none⟩), .int .i64 q.id] (.blk g 25 q.enc :: quoTab p A c l F) (findV q.id l) := fun g => (quo_find W p A c l q.id hb hup).mono (by intro c hc; simp only [quoTab, List.mem_cons, List.not_mem_nil, or_false] at hc ⊢; rcases hc with rfl | rfl <;> simp)
  unfold findV at hfind
  by_cases hbad : badQ q l = true
  · have hp : putQ q l = l := by simp [putQ, hbad]
    have hv : putV q l = .tuple #[.int .i64 0, .int .i64 1] := by simp [putV, hbad]
    cases hB : bsB (cQ q.id) l
    all_goals
      rw [hB] at hfind
      repeat' (first
        | apply aw_seq | apply aw_region | apply aw_ret | apply aw_skip | apply aw_exit | apply aw_block | apply es_nil
        | (apply es_pure hT; (iterate 4 exact rfl)) | (apply es_skip; (iterate 3 exact rfl)) | (apply es_skip0; (iterate 2 exact rfl))
        | (apply es_i64 hT; (iterate 4 exact rfl); (iterate 2 omega))
        | (apply aw_draw [] [] hmix; decide +kernel)
        | (apply es_callQ (hs := (hfind _)); (iterate 7 exact rfl))
        | (apply es_load; (iterate 5 exact rfl); first | exact ld_blk hT rfl rfl mem0 rfl rfl | exact ld_all hT rfl rfl mem0 rfl)
        | (apply es_load; (iterate 5 exact rfl); first | exact ld_blk hT rfl rfl mem1 rfl rfl | exact ld_all hT rfl rfl mem1 rfl)
        | (apply es_load; (iterate 5 exact rfl); first | exact ld_blk hT rfl rfl mem2 rfl rfl | exact ld_all hT rfl rfl mem2 rfl)
        | (apply es_load; (iterate 5 exact rfl); first | exact ld_blk hT rfl rfl mem0 rfl rfl | exact ld_all hT rfl rfl mem0 rfl)
        | (apply es_load; (iterate 5 exact rfl); first | exact ld_blk hT rfl rfl (List.mem_cons_of_mem _ mem0) rfl rfl | exact ld_all hT rfl rfl (List.mem_cons_of_mem _ mem0) rfl)
        | (apply es_load; (iterate 5 exact rfl); first | exact ld_blk hT rfl rfl mem1 rfl rfl | exact ld_all hT rfl rfl mem1 rfl)
        | (apply es_load; (iterate 5 exact rfl); first | exact ld_blk hT rfl rfl (List.mem_cons_of_mem _ mem1) rfl rfl | exact ld_all hT rfl rfl (List.mem_cons_of_mem _ mem1) rfl)
        | (apply es_box; (iterate 5 exact rfl); intro _) | (apply es_alloc hT; (iterate 5 exact rfl); intro _)
        | (apply aw_condT; (iterate 2 exact rfl)) | (apply aw_condF; (iterate 2 exact rfl))
        | (apply es_case; exact rfl; all_goals intro hb; all_goals (try simp only [hb]); all_goals (first | replace hb := of_decide_eq_true hb | replace hb := of_decide_eq_false hb | replace hb := bne_t hb | replace hb := bne_f hb | skip); all_goals (try (exfalso; omega)))
        | (apply aw_cond; exact rfl; all_goals intro hb; all_goals (try simp only [hb]); all_goals (first | replace hb := of_decide_eq_true hb | replace hb := of_decide_eq_false hb | replace hb := bne_t hb | replace hb := bne_f hb | skip); all_goals (try (exfalso; omega))))
    all_goals first
      | (apply ret2; exact rfl; exact rfl; exact ⟨quoTab p A c l F, dt_skip dt_end, hv.symm, A, c, by rw [hp]⟩)
      | skip
    all_goals (exfalso; simp_all [badQ]; try omega)
  · have hbad2 : badQ q l = false := by simpa using hbad
    have hv : putV q l = .tuple #[.int .i64 (oldQ q l), .int .i64 0] := by simp [putV, hbad]
    simp only [badQ, Bool.or_eq_false_iff, decide_eq_false_iff_not, Bool.not_eq_false'] at hbad2
    obtain ⟨⟨⟨⟨⟨hB, k1⟩, k2⟩, k3⟩, k4⟩, k5⟩ := hbad2
    have e1 : decide (q.id < 1) = false := by simpa using k1
    rw [hB] at hfind
    repeat' (first
      | apply aw_seq | apply aw_region | apply aw_ret | apply aw_skip | apply aw_exit | apply aw_block | apply es_nil
      | (apply es_pure hT; (iterate 4 exact rfl)) | (apply es_skip; (iterate 3 exact rfl)) | (apply es_skip0; (iterate 2 exact rfl))
      | (apply es_i64 hT; (iterate 4 exact rfl); (iterate 2 omega))
      | (apply aw_draw [] [] hmix; decide +kernel)
      | (apply es_box; (iterate 5 exact rfl); intro g3)
      | (apply es_callQ (hs := (hfind _)); (iterate 7 exact rfl))
      | (apply es_load; (iterate 5 exact rfl); first | exact ld_blk hT rfl rfl mem0 rfl rfl | exact ld_all hT rfl rfl mem0 rfl)
      | (apply es_load; (iterate 5 exact rfl); first | exact ld_blk hT rfl rfl mem1 rfl rfl | exact ld_all hT rfl rfl mem1 rfl)
      | (apply es_load; (iterate 5 exact rfl); first | exact ld_blk hT rfl rfl mem2 rfl rfl | exact ld_all hT rfl rfl mem2 rfl)
      | (apply es_load; (iterate 5 exact rfl); first | exact ld_blk hT rfl rfl mem0 rfl rfl | exact ld_all hT rfl rfl mem0 rfl)
      | (apply es_load; (iterate 5 exact rfl); first | exact ld_blk hT rfl rfl (List.mem_cons_of_mem _ mem0) rfl rfl | exact ld_all hT rfl rfl (List.mem_cons_of_mem _ mem0) rfl)
      | (apply es_load; (iterate 5 exact rfl); first | exact ld_blk hT rfl rfl mem1 rfl rfl | exact ld_all hT rfl rfl mem1 rfl)
      | (apply es_load; (iterate 5 exact rfl); first | exact ld_blk hT rfl rfl (List.mem_cons_of_mem _ mem1) rfl rfl | exact ld_all hT rfl rfl (List.mem_cons_of_mem _ mem1) rfl)
      | (apply es_box; (iterate 5 exact rfl); intro _) | (apply es_alloc hT; (iterate 5 exact rfl); intro _)
      | (apply aw_condT; (iterate 2 exact rfl)) | (apply aw_condF; (iterate 2 exact rfl))
      | (apply es_case; exact rfl; all_goals intro hb; all_goals (try simp only [hb]); all_goals (first | replace hb := of_decide_eq_true hb | replace hb := of_decide_eq_false hb | replace hb := bne_t hb | replace hb := bne_f hb | skip); all_goals (try (exfalso; omega)))
      | (apply aw_cond; exact rfl; all_goals intro hb; all_goals (try simp only [hb]); all_goals (first | replace hb := of_decide_eq_true hb | replace hb := of_decide_eq_false hb | replace hb := bne_t hb | replace hb := bne_f hb | skip); all_goals (try (exfalso; omega))))
    · exfalso; simp_all
    refine aw_loop (α := Nat × Int × List Quote) (E := fun x => [(0, .pointer (some ⟨p, 0, none⟩)), (3, .pointer (some ⟨g3, 0, none⟩)), (4, .int .i64 x.2.1), (6, .int .i64 (bsN (cQ q.id) l)), (51, .int .i64 l.length), (52, .int .i64 x.1)])
      (H := fun x => .blk g3 25 q.enc :: .blk p 101 [.slice A l.length c] :: .own A l.length c 25 6 (x.2.2.flatMap Quote.enc) :: F) (μ := fun x => l.length - x.1)
      (S := fun x => x.1 ≤ l.length ∧ x.2.1 = oldQ q (l.take x.1) ∧ x.2.2 = (l.take x.1).map (offQ q) ++ l.drop x.1) (0, 0, l) (J := []) ⟨Nat.zero_le _, rfl, rfl⟩ ⟨rfl, rfl, rfl, rfl, rfl, rfl, trivial⟩ (List.Perm.refl _) ?_
    rintro ⟨k, old, m⟩ ⟨s1, s2, s3⟩
    dsimp only at s1 s2 s3 ⊢
    have hml : m.length = l.length := by rw [s3]; simp; omega
    have hrd : ∀ h, Chunk.own A l.length c 25 6 (m.flatMap Quote.enc) ∈ h → Reads W h A l.length 6 (m.flatMap Quote.enc) := fun h hm => Reads.own hm (by rw [flat_len Quote.enc_len, hml]) (fun v hv => by obtain ⟨y, _, hy⟩ := List.mem_flatMap.1 hv; exact Quote.enc_one y v hy)
    by_cases hlt : k < l.length
    · obtain ⟨x, hx⟩ : ∃ x, l[k]? = some x := ⟨l[k]'(by omega), List.getElem?_eq_getElem (by omega)⟩
      have hlk : ((l.take k).map (offQ q)).length = k := by simp; omega
      have hxm : m[k]? = some x := by rw [s3, List.getElem?_append_right (by omega), hlk]; simpa using hx
      have hx2 : m[(k : Int).toNat]? = some x := by simpa using hxm
      obtain ⟨g, hA⟩ := hsome (by omega)
      have hA2 : A.isSome = true := by rw [hA]; rfl
      have hd1 : decide ((k : Int) < (l.length : Int)) = true := by simp; omega
      have hset : m.set k (offQ q x) = (l.take (k + 1)).map (offQ q) ++ l.drop (k + 1) := by
        rw [s3, List.set_append_right _ _ (by omega), hlk, Nat.sub_self, List.take_add_one, hx, List.drop_eq_getElem_cons hlt, List.set_cons_zero]
        simp
      have hold : oldQ q (l.take (k + 1)) = if metQ q x then x.id else old := by
        rw [List.take_add_one, hx, oldQ, List.foldl_append, s2]; rfl
      cases hmet : metQ q x
      · have hoff : m.set k (offQ q x) = m := by rw [show offQ q x = x by simp [offQ, hmet]]; exact set_same hxm
        rw [hoff] at hset
        rw [hmet] at hold
        repeat' (first
          | apply aw_seq | apply aw_region | apply aw_ret | apply aw_skip | apply aw_exit | apply aw_block | apply es_nil
          | (apply es_pure hT; (iterate 4 exact rfl)) | (apply es_skip; (iterate 3 exact rfl)) | (apply es_skip0; (iterate 2 exact rfl))
          | (apply es_i64 hT; (iterate 4 exact rfl); (iterate 2 omega))
          | (apply aw_draw [] [] hmix; decide +kernel)
          | (apply es_idx hT; (iterate 8 exact rfl); (iterate 2 omega); exact hA2)
          | (apply es_load; (iterate 5 exact rfl); exact ld_fld hT rfl rfl (hrd _ mem2) Quote.enc_len (adr_add _ _ _) hx2 (by decide) rfl)
          | (apply es_load; (iterate 5 exact rfl); first | exact ld_blk hT rfl rfl mem0 rfl rfl | exact ld_all hT rfl rfl mem0 rfl)
          | (apply es_load; (iterate 5 exact rfl); first | exact ld_blk hT rfl rfl mem1 rfl rfl | exact ld_all hT rfl rfl mem1 rfl)
          | (apply es_load; (iterate 5 exact rfl); first | exact ld_blk hT rfl rfl mem2 rfl rfl | exact ld_all hT rfl rfl mem2 rfl)
          | (apply es_load; (iterate 5 exact rfl); first | exact ld_blk hT rfl rfl mem0 rfl rfl | exact ld_all hT rfl rfl mem0 rfl)
          | (apply es_load; (iterate 5 exact rfl); first | exact ld_blk hT rfl rfl (List.mem_cons_of_mem _ mem0) rfl rfl | exact ld_all hT rfl rfl (List.mem_cons_of_mem _ mem0) rfl)
          | (apply es_load; (iterate 5 exact rfl); first | exact ld_blk hT rfl rfl mem1 rfl rfl | exact ld_all hT rfl rfl mem1 rfl)
          | (apply es_load; (iterate 5 exact rfl); first | exact ld_blk hT rfl rfl (List.mem_cons_of_mem _ mem1) rfl rfl | exact ld_all hT rfl rfl (List.mem_cons_of_mem _ mem1) rfl)
          | (apply es_box; (iterate 5 exact rfl); intro _) | (apply es_alloc hT; (iterate 5 exact rfl); intro _)
          | (apply aw_condT; (iterate 2 exact rfl)) | (apply aw_condF; (iterate 2 exact rfl))
          | (apply es_case; exact rfl; all_goals intro hb; all_goals (try simp only [hb]); all_goals (first | replace hb := of_decide_eq_true hb | replace hb := of_decide_eq_false hb | replace hb := bne_t hb | replace hb := bne_f hb | skip); all_goals (try (exfalso; omega)))
          | (apply aw_cond; exact rfl; all_goals intro hb; all_goals (try simp only [hb]); all_goals (first | replace hb := of_decide_eq_true hb | replace hb := of_decide_eq_false hb | replace hb := bne_t hb | replace hb := bne_f hb | skip); all_goals (try (exfalso; omega))))
        all_goals first
          | exact loopq_end (k + 1, old, m) (by dsimp only; omega) ⟨by dsimp only; omega, hold.symm, hset⟩ ⟨rfl, rfl, rfl, rfl, rfl, rfl, trivial⟩ dt_end
          | (exfalso; simp_all [metQ])
      · have hoff : offQ q x = { x with live := false } := by simp [offQ, hmet]
        rw [hoff] at hset
        rw [hmet] at hold
        have hlay : lay (m.flatMap Quote.enc) (k * 6 + 5) [.bool false] = (m.set k { x with live := false }).flatMap Quote.enc := flat_lay Quote.enc_len hxm (Nat.le_of_ble_eq_true rfl) rfl
        have hrd2 : ∀ h, Chunk.own A l.length c 25 6 (lay (m.flatMap Quote.enc) (k * 6 + 5) [.bool false]) ∈ h → Reads W h A l.length 6 ((m.set k { x with live := false }).flatMap Quote.enc) := fun h hm => by
          rw [hlay] at hm
          exact Reads.own hm (by rw [flat_len Quote.enc_len, List.length_set, hml]) (fun v hv => by obtain ⟨y, _, hy⟩ := List.mem_flatMap.1 hv; exact Quote.enc_one y v hy)
        have hx3 : (m.set k { x with live := false })[(k : Int).toNat]? = some { x with live := false } := by
          rw [Int.toNat_natCast, List.getElem?_set_self (by omega)]
        have hmet' := hmet
        simp only [metQ, Bool.and_eq_true, beq_iff_eq] at hmet'
        obtain ⟨⟨n1, n2⟩, n3⟩ := hmet'
        repeat' (first
          | apply aw_seq | apply aw_region | apply aw_ret | apply aw_skip | apply aw_exit | apply aw_block | apply es_nil
          | (apply es_pure hT; (iterate 4 exact rfl)) | (apply es_skip; (iterate 3 exact rfl)) | (apply es_skip0; (iterate 2 exact rfl))
          | (apply es_i64 hT; (iterate 4 exact rfl); (iterate 2 omega))
          | (apply aw_draw [] [] hmix; decide +kernel)
          | (apply es_idx hT; (iterate 8 exact rfl); (iterate 2 omega); exact hA2)
          | (apply es_load; (iterate 5 exact rfl); first | exact ld_fld hT rfl rfl (hrd _ mem2) Quote.enc_len (adr_add _ _ _) hx2 (by decide) rfl | exact ld_fld hT rfl rfl (hrd2 _ mem0) Quote.enc_len (adr_add _ _ _) hx3 (by decide) rfl)
          | (apply es_storeRow hT; (iterate 6 exact rfl); (first | exact sel0 | exact sel1 | exact selS sel1 | exact selS (selS sel1) | exact selS (selS (selS sel1)) | exact selS (selS (selS (selS sel1))) | exact selS (selS (selS (selS (selS sel1)))) | exact selS (selS (selS (selS (selS (selS sel1)))))); exact adr_add _ _ _; exact rfl; exact rfl; (show (k * 6 + 5) + 1 ≤ l.length * 6; omega); omega)
          | (apply es_load; (iterate 5 exact rfl); first | exact ld_blk hT rfl rfl mem0 rfl rfl | exact ld_all hT rfl rfl mem0 rfl)
          | (apply es_load; (iterate 5 exact rfl); first | exact ld_blk hT rfl rfl mem1 rfl rfl | exact ld_all hT rfl rfl mem1 rfl)
          | (apply es_load; (iterate 5 exact rfl); first | exact ld_blk hT rfl rfl mem2 rfl rfl | exact ld_all hT rfl rfl mem2 rfl)
          | (apply es_load; (iterate 5 exact rfl); first | exact ld_blk hT rfl rfl mem0 rfl rfl | exact ld_all hT rfl rfl mem0 rfl)
          | (apply es_load; (iterate 5 exact rfl); first | exact ld_blk hT rfl rfl (List.mem_cons_of_mem _ mem0) rfl rfl | exact ld_all hT rfl rfl (List.mem_cons_of_mem _ mem0) rfl)
          | (apply es_load; (iterate 5 exact rfl); first | exact ld_blk hT rfl rfl mem1 rfl rfl | exact ld_all hT rfl rfl mem1 rfl)
          | (apply es_load; (iterate 5 exact rfl); first | exact ld_blk hT rfl rfl (List.mem_cons_of_mem _ mem1) rfl rfl | exact ld_all hT rfl rfl (List.mem_cons_of_mem _ mem1) rfl)
          | (apply es_box; (iterate 5 exact rfl); intro _) | (apply es_alloc hT; (iterate 5 exact rfl); intro _)
          | (apply aw_condT; (iterate 2 exact rfl)) | (apply aw_condF; (iterate 2 exact rfl))
          | (apply es_case; exact rfl; all_goals intro hb; all_goals (try simp only [hb]); all_goals (first | replace hb := of_decide_eq_true hb | replace hb := of_decide_eq_false hb | replace hb := bne_t hb | replace hb := bne_f hb | skip); all_goals (try (exfalso; omega)))
          | (apply aw_cond; exact rfl; all_goals intro hb; all_goals (try simp only [hb]); all_goals (first | replace hb := of_decide_eq_true hb | replace hb := of_decide_eq_false hb | replace hb := bne_t hb | replace hb := bne_f hb | skip); all_goals (try (exfalso; omega))))
        all_goals first
          | (refine loopq_end (k + 1, x.id, m.set k { x with live := false }) (by dsimp only; omega) ⟨by dsimp only; omega, hold.symm, hset⟩ ⟨rfl, rfl, rfl, rfl, rfl, rfl, trivial⟩ ?_
             dsimp only
             rw [← hlay]
             apply dt_cons; (first | exact sel0 | exact sel1 | exact selS sel1 | exact selS (selS sel1) | exact selS (selS (selS sel1)) | exact selS (selS (selS (selS sel1))) | exact selS (selS (selS (selS (selS sel1)))) | exact selS (selS (selS (selS (selS (selS sel1))))))
             apply dt_cons; (first | exact sel0 | exact sel1 | exact selS sel1 | exact selS (selS sel1) | exact selS (selS (selS sel1)) | exact selS (selS (selS (selS sel1))) | exact selS (selS (selS (selS (selS sel1)))) | exact selS (selS (selS (selS (selS (selS sel1))))))
             apply dt_cons; (first | exact sel0 | exact sel1 | exact selS sel1 | exact selS (selS sel1) | exact selS (selS (selS sel1)) | exact selS (selS (selS (selS sel1))) | exact selS (selS (selS (selS (selS sel1)))) | exact selS (selS (selS (selS (selS (selS sel1))))))
             (repeat (first | exact dt_end | apply dt_skip)))
          | (exfalso; simp_all)
    · obtain rfl : k = l.length := by omega
      have hd1 : decide ((l.length : Int) < (l.length : Int)) = false := by simp
      rw [List.take_length] at s2 s3
      rw [List.drop_length, List.append_nil] at s3
      subst s2 s3
      have hle := bsN_le (c := cQ q.id) (l := l)
      have hpq : putQ q l = (l.map (offQ q)).take (bsN (cQ q.id) l) ++ [q] ++ (l.map (offQ q)).drop (bsN (cQ q.id) l) := by simp [putQ, hbad]
      have hplen : (putQ q l).length = l.length + 1 := by rw [hpq]; simp; omega
      have hc : ((l.map (offQ q)).flatMap Quote.enc).take ((bsN (cQ q.id) l) * 6) ++ q.enc ++ ((l.map (offQ q)).flatMap Quote.enc).drop ((bsN (cQ q.id) l) * 6) = (putQ q l).flatMap Quote.enc := by
        rw [flat_take Quote.enc_len, flat_drop Quote.enc_len, hpq]; simp
      have hins : ∀ gv, FSpec Try.prog W 60 [.slice A l.length c, .int .i64 (bsN (cQ q.id) l), .slice (some ⟨gv, 0, none⟩) 1 1] (.own (some ⟨gv, 0, none⟩) 1 1 25 6 q.enc :: .blk g3 25 q.enc :: .blk p 101 [.slice A l.length c] :: .own A l.length c 25 6 ((l.map (offQ q)).flatMap Quote.enc) :: F) _ := fun gv =>
        (insertQuote W (.own (some ⟨gv, 0, none⟩) 1 1 25 6 q.enc :: .blk g3 25 q.enc :: .blk p 101 [.slice A l.length c] :: F) A l.length c (bsN (cQ q.id) l) ((l.map (offQ q)).flatMap Quote.enc) gv q.enc mem0 (by omega) (by omega) (by omega)).perm (selS (selS (selS sel0)))
      repeat' (first
        | apply aw_seq | apply aw_region | apply aw_ret | apply aw_skip | apply aw_exit | apply aw_block | apply es_nil
        | (apply es_pure hT; (iterate 4 exact rfl)) | (apply es_skip; (iterate 3 exact rfl)) | (apply es_skip0; (iterate 2 exact rfl))
        | (apply es_i64 hT; (iterate 4 exact rfl); (iterate 2 omega))
        | (apply aw_draw [] [] hmix; decide +kernel)
        | (apply es_buildSlice hT; (iterate 12 exact rfl); intro gv)
        | (apply es_call (hs := (hins _)); (iterate 7 exact rfl); rintro _ _ ⟨A', c', rfl, rfl⟩)
        | (apply es_store hT; (iterate 6 exact rfl); (first | exact sel0 | exact sel1 | exact selS sel1 | exact selS (selS sel1) | exact selS (selS (selS sel1)) | exact selS (selS (selS (selS sel1))) | exact selS (selS (selS (selS (selS sel1)))) | exact selS (selS (selS (selS (selS (selS sel1)))))); (iterate 3 exact rfl); exact Nat.le_of_ble_eq_true rfl)
        | (apply es_load; (iterate 5 exact rfl); first | exact ld_blk hT rfl rfl mem0 rfl rfl | exact ld_all hT rfl rfl mem0 rfl)
        | (apply es_load; (iterate 5 exact rfl); first | exact ld_blk hT rfl rfl mem1 rfl rfl | exact ld_all hT rfl rfl mem1 rfl)
        | (apply es_load; (iterate 5 exact rfl); first | exact ld_blk hT rfl rfl mem2 rfl rfl | exact ld_all hT rfl rfl mem2 rfl)
        | (apply es_load; (iterate 5 exact rfl); first | exact ld_blk hT rfl rfl mem0 rfl rfl | exact ld_all hT rfl rfl mem0 rfl)
        | (apply es_load; (iterate 5 exact rfl); first | exact ld_blk hT rfl rfl (List.mem_cons_of_mem _ mem0) rfl rfl | exact ld_all hT rfl rfl (List.mem_cons_of_mem _ mem0) rfl)
        | (apply es_load; (iterate 5 exact rfl); first | exact ld_blk hT rfl rfl mem1 rfl rfl | exact ld_all hT rfl rfl mem1 rfl)
        | (apply es_load; (iterate 5 exact rfl); first | exact ld_blk hT rfl rfl (List.mem_cons_of_mem _ mem1) rfl rfl | exact ld_all hT rfl rfl (List.mem_cons_of_mem _ mem1) rfl)
        | (apply es_box; (iterate 5 exact rfl); intro _) | (apply es_alloc hT; (iterate 5 exact rfl); intro _)
        | (apply aw_condT; (iterate 2 exact rfl)) | (apply aw_condF; (iterate 2 exact rfl))
        | (apply es_case; exact rfl; all_goals intro hb; all_goals (try simp only [hb]); all_goals (first | replace hb := of_decide_eq_true hb | replace hb := of_decide_eq_false hb | replace hb := bne_t hb | replace hb := bne_f hb | skip); all_goals (try (exfalso; omega)))
        | (apply aw_cond; exact rfl; all_goals intro hb; all_goals (try simp only [hb]); all_goals (first | replace hb := of_decide_eq_true hb | replace hb := of_decide_eq_false hb | replace hb := bne_t hb | replace hb := bne_f hb | skip); all_goals (try (exfalso; omega))))
      apply ret2; exact rfl; exact rfl
      refine ⟨quoTab p A' c' (putQ q l) F, ?_, hv.symm, A', c', rfl⟩
      rw [quoTab, hplen, ← hc]
      apply dt_cons; (first | exact sel0 | exact sel1 | exact selS sel1 | exact selS (selS sel1) | exact selS (selS (selS sel1)) | exact selS (selS (selS (selS sel1))) | exact selS (selS (selS (selS (selS sel1)))) | exact selS (selS (selS (selS (selS (selS sel1))))))
      apply dt_cons; (first | exact sel0 | exact sel1 | exact selS sel1 | exact selS (selS sel1) | exact selS (selS (selS sel1)) | exact selS (selS (selS (selS sel1))) | exact selS (selS (selS (selS (selS sel1)))) | exact selS (selS (selS (selS (selS (selS sel1))))))
      (repeat (first | exact dt_end | apply dt_skip))
end Go.Proofs.Ytmoglacdddinjaa
