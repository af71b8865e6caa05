/- What the statement AskPlays answers: the program's table and the document's go together. Conditions stand in each statement. -/
import Derived.Test.YtmoglacdddinjaaRef18b
set_option linter.unusedSimpArgs false
set_option linter.unusedVariables false
namespace Go.Proofs.Ytmoglacdddinjaa
open Go Go.Sl
attribute [local irreducible] AW ES EP Ld RetQ
set_option maxRecDepth 100000

theorem setA_up {id : Int} {l : List AskR} {x y : AskR} (hup : upA l) (hx : l[bsN (cA id) l]? = some x) (he : y.id = x.id) : upA (setA id y l) := by
  unfold upA setA at *
  rw [← List.pairwise_map (f := AskR.id) (R := (· < ·))] at hup ⊢
  obtain ⟨hlt, hxe⟩ := List.getElem?_eq_some_iff.1 hx
  have : (l.set (bsN (cA id) l) y).map AskR.id = l.map AskR.id := by
    rw [List.map_set, he, ← hxe]
    apply List.ext_getElem?
    intro i
    by_cases hi : bsN (cA id) l = i
    · subst hi; rw [List.getElem?_set_self (by simpa using hlt)]; simp [hlt]
    · rw [List.getElem?_set_ne hi]
  rw [this]; exact hup
theorem addA_up {a : AskR} {l : List AskR} (h : upA l) : upA (addA a l) := by
  unfold addA
  split
  · rename_i h0
    have hB : bsB (cA a.id) l = false := by
      cases hB : bsB (cA a.id) l
      · rfl
      · simp [addE, hB] at h0
    refine ins_up (f := AskR.id) h (fun x hx => ?_) (by
      unfold bsN
      congr 2
      funext x
      exact decide_eq_decide.2 cA_neg)
    intro he
    obtain ⟨i, hi⟩ := List.getElem?_of_mem hx
    have := (bsA_at h hi).2
    rw [he, hB] at this; cases this
  · exact h
theorem addA_len {a : AskR} {l : List AskR} : (addA a l).length ≤ l.length + 1 := by
  unfold addA; split
  · simp; omega
  · omega
theorem gotX {id : Int} {l : List AskR} {x : AskR} (h : getA id l = some x) : l[bsN (cA id) l]? = some x := by
  unfold getA at h; split at h
  · exact h
  · cases h
theorem lookA_ok {id quote until_ : Int} {l : List AskR} (h : upA l) : upA (lookA id quote until_ l) ∧ (lookA id quote until_ l).length = l.length := by
  unfold lookA
  split
  · exact ⟨h, rfl⟩
  · rename_i x hx
    split
    · exact ⟨setA_up h (gotX hx) rfl, by simp [setA]⟩
    · exact ⟨h, rfl⟩
theorem backA_ok {id : Int} {l : List AskR} (h : upA l) : upA (backA id l) ∧ (backA id l).length = l.length := by
  unfold backA
  split
  · exact ⟨h, rfl⟩
  · rename_i x hx
    split
    · exact ⟨setA_up h (gotX hx) rfl, by simp [setA]⟩
    · exact ⟨h, rfl⟩
theorem endA_ok {id state : Int} {l : List AskR} (h : upA l) : upA (endA id state l) ∧ (endA id state l).length = l.length := by
  unfold endA
  split
  · exact ⟨h, rfl⟩
  · rename_i x hx
    split
    · exact ⟨setA_up h (gotX hx) (by unfold endX; split <;> rfl), by simp [setA]⟩
    · exact ⟨h, rfl⟩
theorem es_same {P : Program} {W : World} {T : Tab} {N : Nat} {env : Env} {h : List Chunk} {kf : KF} {ops : Array Oper} {K : Env → List Chunk → Prop} {rest : List Oper} (hT : TabOK P T) {b : Bool} {k : IntKind} {e : Int} {d : Tmp} {t yt : TypeId} {x y : Operand} {ty pos af g} (hg : evalG ops env g = some b) (hb : b = true) (hd : Nat.blt d N = true) (hx : evalE env x = some (.int k e)) (hy : evalE env y = some (.int k e))
    (hK : ES P W N kf ops rest ((d, .bool true) :: env) h K) : ES P W N kf ops (⟨some d, .binOp .eql t x y yt, ty, pos, af, g⟩ :: rest) env h K :=
  es_pure hT hg hb hd (v := .bool (e == e)) (by simp [evalPure, hx, hy, cmpV]) (by rw [beq_self_eq_true]; exact hK)
theorem es_diff {P : Program} {W : World} {T : Tab} {N : Nat} {env : Env} {h : List Chunk} {kf : KF} {ops : Array Oper} {K : Env → List Chunk → Prop} {rest : List Oper} (hT : TabOK P T) {b : Bool} {k : IntKind} {e : Int} {d : Tmp} {t yt : TypeId} {x y : Operand} {ty pos af g} (hg : evalG ops env g = some b) (hb : b = true) (hd : Nat.blt d N = true) (hx : evalE env x = some (.int k e)) (hy : evalE env y = some (.int k e))
    (hK : ES P W N kf ops rest ((d, .bool false) :: env) h K) : ES P W N kf ops (⟨some d, .binOp .neq t x y yt, ty, pos, af, g⟩ :: rest) env h K :=
  es_pure hT hg hb hd (v := .bool (e != e)) (by simp [evalPure, hx, hy, cmpV]) (by rw [bne_self_eq_false]; exact hK)
theorem mem6 {a b d e f g c : Chunk} {F : List Chunk} : c ∈ a :: b :: d :: e :: f :: g :: c :: F := List.mem_cons_of_mem _ mem5
theorem mem7 {a b d e f g i c : Chunk} {F : List Chunk} : c ∈ a :: b :: d :: e :: f :: g :: i :: c :: F := List.mem_cons_of_mem _ mem6
theorem memPair {x y : Chunk} {h : List Chunk} (hx : x ∈ h) (hy : y ∈ h) : ∀ c ∈ [x, y], c ∈ h := fun c hc => by
  rcases List.mem_cons.1 hc with rfl | hc
  · exact hx
  · rw [List.mem_singleton.1 hc]; exact hy
theorem ask_AllM (W : World) (h : List Chunk) (p : Nat) (A : Option Addr) (c : Nat) (l : List AskR) (m1 : Chunk.blk p 119 [.slice A l.length c] ∈ h) (m2 : Chunk.own A l.length c 71 10 (l.flatMap AskR.enc) ∈ h) (hb : l.length ≤ 1000000) :
    FSpec Try.prog W 47 [.pointer (some ⟨p, 0, none⟩)] h (fun v h' => ∃ A' c', v = .slice A' l.length c' ∧ h' = .own A' l.length c' 71 10 (l.flatMap AskR.enc) :: h ∧ OwnF A' l.length c' 10 (l.flatMap AskR.enc)) :=
  ⟨(ask_AllNil W).1, fun w hw => (ask_All W h p A c l m1 (Reads.own m2 (hw.own_len m2).1 (hw.own_len m2).2) hb).2 w hw⟩
theorem ref18_SameM (W : World) (h : List Chunk) (A1 A2 : Option Addr) (c1 c2 : Nat) (l : List AskR) (hf : OwnF A1 l.length c1 10 (l.flatMap AskR.enc)) (m1 : Chunk.own A1 l.length c1 71 10 (l.flatMap AskR.enc) ∈ h) (m2 : Chunk.own A2 l.length c2 71 10 (l.flatMap AskR.enc) ∈ h) (hb : l.length ≤ 1000000) :
    QSpec Try.prog W 46 [.slice A1 l.length c1, .slice A2 l.length c2] h (.bool true) := by
  have hr : Reads W h A1 l.length 10 (l.flatMap AskR.enc) := hf.reads m1
  have := ref18_Same W h A1 A2 c1 c2 l l hr (Reads.own m2 hr.1 hr.2.1) hb
  exact this.cast (by simp)


set_option maxHeartbeats 1000000 in
theorem ask_Plays (W : World) (A0 : Option Addr) (c0 : Nat) (ls : List Act18) (hr0 : Reads W [] A0 ls.length 11 (ls.flatMap Act18.enc)) :
    FSpec Try.prog W 8 [.slice A0 ls.length c0] [] (fun v _ => v = .bool true) := by
  refine spec_body Try.func8 rfl rfl Try.results8 Try.ntmps8 rfl rfl ?_
  refine aw_reads hr0 (by rfl) (fun hA0 => ?_)
  by_cases h1 : ls.length > 120
  · repeat' (first
      | apply aw_seq | apply aw_region | apply aw_ret | apply aw_skip | apply aw_exit | apply aw_block | apply es_nil
      | (apply es_pure hT; (iterate 4 exact rfl)) | (apply es_skip; (iterate 3 exact rfl)) | (apply es_skip0; (iterate 2 exact rfl))
      | (apply es_i64 hT; (iterate 4 exact rfl); (iterate 2 omega))
      | (apply aw_draw [] [] hmix; decide +kernel)
      | (apply es_load; (iterate 5 exact rfl); first | exact ld_blk hT rfl rfl mem0 rfl rfl | exact ld_all hT rfl rfl mem0 rfl)
      | (apply es_load; (iterate 5 exact rfl); first | exact ld_blk hT rfl rfl mem1 rfl rfl | exact ld_all hT rfl rfl mem1 rfl)
      | (apply es_load; (iterate 5 exact rfl); first | exact ld_blk hT rfl rfl mem2 rfl rfl | exact ld_all hT rfl rfl mem2 rfl)
      | (apply es_box; (iterate 5 exact rfl); intro _) | (apply es_alloc hT; (iterate 5 exact rfl); intro _)
      | (apply aw_condT; (iterate 2 exact rfl)) | (apply aw_condF; (iterate 2 exact rfl))
      | (apply es_case; exact rfl; all_goals intro hb; all_goals (try simp only [hb]); all_goals (first | replace hb := of_decide_eq_true hb | replace hb := of_decide_eq_false hb | replace hb := bne_t hb | replace hb := bne_f hb | skip); all_goals (try (exfalso; omega)))
      | (apply aw_cond; exact rfl; all_goals intro hb; all_goals (try simp only [hb]); all_goals (first | replace hb := of_decide_eq_true hb | replace hb := of_decide_eq_false hb | replace hb := bne_t hb | replace hb := bne_f hb | skip); all_goals (try (exfalso; omega))))
    apply ret1; exact rfl; exact rfl
  repeat' (first
    | apply aw_seq | apply aw_region | apply aw_ret | apply aw_skip | apply aw_exit | apply aw_block | apply es_nil
    | (apply es_pure hT; (iterate 4 exact rfl)) | (apply es_skip; (iterate 3 exact rfl)) | (apply es_skip0; (iterate 2 exact rfl))
    | (apply es_i64 hT; (iterate 4 exact rfl); (iterate 2 omega))
    | (apply aw_draw [] [] hmix; decide +kernel)
    | (apply es_call (hs := (ask_New W _)); (iterate 7 exact rfl); rintro _ _ ⟨p, A, c, rfl, rfl⟩)
    | (apply es_build hT; (iterate 4 exact rfl))
    | (apply es_box; (iterate 5 exact rfl); intro q)
    | (apply es_load; (iterate 5 exact rfl); first | exact ld_blk hT rfl rfl mem0 rfl rfl | exact ld_all hT rfl rfl mem0 rfl)
    | (apply es_load; (iterate 5 exact rfl); first | exact ld_blk hT rfl rfl mem1 rfl rfl | exact ld_all hT rfl rfl mem1 rfl)
    | (apply es_load; (iterate 5 exact rfl); first | exact ld_blk hT rfl rfl mem2 rfl rfl | exact ld_all hT rfl rfl mem2 rfl)
    | (apply es_box; (iterate 5 exact rfl); intro _) | (apply es_alloc hT; (iterate 5 exact rfl); intro _)
    | (apply aw_condT; (iterate 2 exact rfl)) | (apply aw_condF; (iterate 2 exact rfl))
    | (apply es_case; exact rfl; all_goals intro hb; all_goals (try simp only [hb]); all_goals (first | replace hb := of_decide_eq_true hb | replace hb := of_decide_eq_false hb | replace hb := bne_t hb | replace hb := bne_f hb | skip); all_goals (try (exfalso; omega)))
    | (apply aw_cond; exact rfl; all_goals intro hb; all_goals (try simp only [hb]); all_goals (first | replace hb := of_decide_eq_true hb | replace hb := of_decide_eq_false hb | replace hb := bne_t hb | replace hb := bne_f hb | skip); all_goals (try (exfalso; omega))))
  refine aw_conv (fun w hw => ⟨_, hw.own_nil 71 10, ?_⟩)
  refine aw_loop (α := Nat × List AskR × Option Addr × Nat × Option Addr × Nat) (E := fun x => [(0, .slice A0 ls.length c0), (3, .pointer (some ⟨p, 0, none⟩)), (4, .pointer (some ⟨q, 0, none⟩)), (5, .int .i64 x.1)])
    (H := fun x => refA q x.2.2.2.2.1 x.2.2.2.2.2 x.2.1 (askTab p x.2.2.1 x.2.2.2.1 x.2.1 [])) (μ := fun x => ls.length - x.1)
    (S := fun x => x.1 ≤ ls.length ∧ upA x.2.1 ∧ x.2.1.length ≤ x.1) (0, [], A, c, none, 0) (J := [])
    ⟨Nat.zero_le _, List.Pairwise.nil, Nat.le_refl _⟩ ⟨rfl, rfl, rfl, rfl, trivial⟩ sel1 ?_
  rintro ⟨k, l, A1, c1, A2, c2⟩ ⟨hk, hup, hlen⟩
  dsimp only at hk hup hlen ⊢
  by_cases hlt : k < ls.length
  · obtain ⟨x, hx⟩ : ∃ x, ls[k]? = some x := ⟨ls[k]'(by omega), List.getElem?_eq_getElem (by omega)⟩
    have hx2 : ls[(k : Int).toNat]? = some x := by simpa using hx
    have hA := hA0 (by omega)
    have hd1 : decide ((k : Int) < (ls.length : Int)) = true := by simp; omega
    by_cases k1 : x.kind = 1
    · have hlen' := addA_len (l := l) (a := x.ask)
      have hc1 := fun g => (ask_Add W (.blk g 71 x.ask.enc :: refA q A2 c2 l []) p A1 c1 l x.ask (by omega) hup).perm (h' := .blk g 71 x.ask.enc :: refA q A2 c2 l (askTab p A1 c1 l [])) ((selS (selS (selS sel0))).trans ((selS (selS (selS sel0))).cons _))
      have hc2 := fun g A3 c3 => (ref18_Add W (askTab p A3 c3 (addA x.ask l) [.blk g 71 x.ask.enc]) q A2 c2 l x.ask (by omega) hup).perm (h' := askTab p A3 c3 (addA x.ask l) (.blk g 71 x.ask.enc :: refA q A2 c2 l [])) ((selS (selS (selS sel0))).trans ((selS (selS (selS sel0))).cons _))
      generalize addE x.ask l = e at hc1 hc2
      have hLn := fun A c => ask_Many W p A c (addA x.ask l) (by omega)
      have hLr := fun A c => ref18_Many W q A c (addA x.ask l) (by omega)
      generalize manyA (addA x.ask l) = nL at hLn hLr
      repeat' (first
        | (apply es_same hT; (iterate 5 exact rfl))
        | (apply es_diff hT; (iterate 5 exact rfl))
        | apply aw_seq | apply aw_region | apply aw_ret | apply aw_skip | apply aw_exit | apply aw_block | apply es_nil
        | (apply es_pure hT; (iterate 4 exact rfl)) | (apply es_skip; (iterate 3 exact rfl)) | (apply es_skip0; (iterate 2 exact rfl))
        | (apply es_i64 hT; (iterate 4 exact rfl); (iterate 2 omega))
        | (apply es_idx hT; (iterate 8 exact rfl); (iterate 2 omega); exact hA)
        | ((first | (apply es_load; (iterate 5 exact rfl)) | (apply es_loadL; (iterate 5 exact rfl); first | exact fun _ h => h | (first | exact keep1 mem0 | exact keep1 mem1 | exact keep1 mem2 | exact keep1 mem3 | exact keep1 mem4 | exact keep1 mem5))); first | exact ld_fld hT rfl rfl (hr0.mono (by simp)) Act18.enc_len (adr_add _ _ _) hx2 (f := 0) (by decide) rfl | exact ld_sub hT rfl rfl (hr0.mono (by simp)) Act18.enc_len (adr_add _ _ _) hx2 (f := 1) (vs := x.ask.enc) (Nat.le_of_ble_eq_true rfl) rfl rfl)
        | (apply es_alloc hT; (iterate 5 exact rfl); intro g6)
        | (apply es_store hT; (iterate 6 exact rfl); exact sel0; (iterate 3 exact rfl); exact Nat.le_of_ble_eq_true rfl)
        | (apply aw_treeH [.blk g6 71 x.ask.enc] [] [36, 37] (.step 0 <| .step 1 <| .step 3 <| .step 4 <| .step 2 <| .step 5 <| .step 6 <| .step 7 <| .nil) hmix; decide +kernel) | apply ep_nil | apply ep_alt | (apply ep_step; exact rfl)
        | (apply es_callG (hs := (hc1 _)); (iterate 7 exact rfl); (rintro _ _ ⟨rfl, A3, c3, rfl⟩; refine ⟨by (first | exact keep1 mem0 | exact keep1 mem1 | exact keep1 mem2 | exact keep1 mem3 | exact keep1 mem4 | exact keep1 mem5), ?_⟩))
        | (apply es_callG (hs := (hc2 _ _ _)); (iterate 7 exact rfl); (rintro _ _ ⟨rfl, A4, c4, rfl⟩; refine ⟨by (first | exact keep1 mem0 | exact keep1 mem1 | exact keep1 mem2 | exact keep1 mem3 | exact keep1 mem4 | exact keep1 mem5), ?_⟩))
        | (apply aw_tree [] [47] (.step 0 <| .step 1 <| .step 2 <| .step 3 <| .step 5 <| .step 6 <| .step 7 <| .step 8 <| .step 4 <| .step 9 <| .step 10 <| .step 11 <| .step 12 <| .step 13 <| .step 15 <| .step 14 <| .step 16 <| .step 17 <| .step 18 <| .nil) hmix; decide +kernel) | apply ep_nil | apply ep_alt | (apply ep_step; exact rfl)
        | (apply es_callA (hs := (ask_AllM W _ p A3 c3 (addA x.ask l) mem2 mem3 (by omega))); (iterate 7 exact rfl); (rintro _ _ ⟨AO, cO, rfl, rfl, hfO⟩; refine ⟨[_], rfl, ?_⟩))
        | (apply es_callQ (hs := (ref18_SameM W _ _ _ _ _ (addA x.ask l) hfO mem0 mem2 (by omega))); (iterate 7 exact rfl))
        | (apply es_callQ (hs := ((hLn A3 c3).mono (memPair mem3 mem4))); (iterate 7 exact rfl))
        | (apply es_callQ (hs := ((hLr A4 c4).mono (memPair mem1 mem2))); (iterate 7 exact rfl))
        | ((first | (apply es_load; (iterate 5 exact rfl)) | (apply es_loadL; (iterate 5 exact rfl); first | exact fun _ h => h | (first | exact keep1 mem0 | exact keep1 mem1 | exact keep1 mem2 | exact keep1 mem3 | exact keep1 mem4 | exact keep1 mem5))); first | exact ld_blk hT rfl rfl mem0 rfl rfl | exact ld_all hT rfl rfl mem0 rfl)
        | ((first | (apply es_load; (iterate 5 exact rfl)) | (apply es_loadL; (iterate 5 exact rfl); first | exact fun _ h => h | (first | exact keep1 mem0 | exact keep1 mem1 | exact keep1 mem2 | exact keep1 mem3 | exact keep1 mem4 | exact keep1 mem5))); first | exact ld_blk hT rfl rfl mem1 rfl rfl | exact ld_all hT rfl rfl mem1 rfl)
        | ((first | (apply es_load; (iterate 5 exact rfl)) | (apply es_loadL; (iterate 5 exact rfl); first | exact fun _ h => h | (first | exact keep1 mem0 | exact keep1 mem1 | exact keep1 mem2 | exact keep1 mem3 | exact keep1 mem4 | exact keep1 mem5))); first | exact ld_blk hT rfl rfl mem2 rfl rfl | exact ld_all hT rfl rfl mem2 rfl)
        | ((first | (apply es_load; (iterate 5 exact rfl)) | (apply es_loadL; (iterate 5 exact rfl); first | exact fun _ h => h | (first | exact keep1 mem0 | exact keep1 mem1 | exact keep1 mem2 | exact keep1 mem3 | exact keep1 mem4 | exact keep1 mem5))); first | exact ld_blk hT rfl rfl mem0 rfl rfl | exact ld_all hT rfl rfl mem0 rfl)
        | ((first | (apply es_load; (iterate 5 exact rfl)) | (apply es_loadL; (iterate 5 exact rfl); first | exact fun _ h => h | (first | exact keep1 mem0 | exact keep1 mem1 | exact keep1 mem2 | exact keep1 mem3 | exact keep1 mem4 | exact keep1 mem5))); first | exact ld_blk hT rfl rfl (List.mem_cons_of_mem _ mem0) rfl rfl | exact ld_all hT rfl rfl (List.mem_cons_of_mem _ mem0) rfl)
        | ((first | (apply es_load; (iterate 5 exact rfl)) | (apply es_loadL; (iterate 5 exact rfl); first | exact fun _ h => h | (first | exact keep1 mem0 | exact keep1 mem1 | exact keep1 mem2 | exact keep1 mem3 | exact keep1 mem4 | exact keep1 mem5))); first | exact ld_blk hT rfl rfl (List.mem_cons_of_mem _ (List.mem_cons_of_mem _ mem0)) rfl rfl | exact ld_all hT rfl rfl (List.mem_cons_of_mem _ (List.mem_cons_of_mem _ mem0)) rfl)
        | ((first | (apply es_load; (iterate 5 exact rfl)) | (apply es_loadL; (iterate 5 exact rfl); first | exact fun _ h => h | (first | exact keep1 mem0 | exact keep1 mem1 | exact keep1 mem2 | exact keep1 mem3 | exact keep1 mem4 | exact keep1 mem5))); first | exact ld_blk hT rfl rfl (List.mem_cons_of_mem _ (List.mem_cons_of_mem _ (List.mem_cons_of_mem _ mem0))) rfl rfl | exact ld_all hT rfl rfl (List.mem_cons_of_mem _ (List.mem_cons_of_mem _ (List.mem_cons_of_mem _ mem0))) rfl)
        | ((first | (apply es_load; (iterate 5 exact rfl)) | (apply es_loadL; (iterate 5 exact rfl); first | exact fun _ h => h | (first | exact keep1 mem0 | exact keep1 mem1 | exact keep1 mem2 | exact keep1 mem3 | exact keep1 mem4 | exact keep1 mem5))); first | exact ld_blk hT rfl rfl (List.mem_cons_of_mem _ (List.mem_cons_of_mem _ (List.mem_cons_of_mem _ (List.mem_cons_of_mem _ mem0)))) rfl rfl | exact ld_all hT rfl rfl (List.mem_cons_of_mem _ (List.mem_cons_of_mem _ (List.mem_cons_of_mem _ (List.mem_cons_of_mem _ mem0)))) rfl)
        | ((first | (apply es_load; (iterate 5 exact rfl)) | (apply es_loadL; (iterate 5 exact rfl); first | exact fun _ h => h | (first | exact keep1 mem0 | exact keep1 mem1 | exact keep1 mem2 | exact keep1 mem3 | exact keep1 mem4 | exact keep1 mem5))); first | exact ld_blk hT rfl rfl mem1 rfl rfl | exact ld_all hT rfl rfl mem1 rfl)
        | ((first | (apply es_load; (iterate 5 exact rfl)) | (apply es_loadL; (iterate 5 exact rfl); first | exact fun _ h => h | (first | exact keep1 mem0 | exact keep1 mem1 | exact keep1 mem2 | exact keep1 mem3 | exact keep1 mem4 | exact keep1 mem5))); first | exact ld_blk hT rfl rfl (List.mem_cons_of_mem _ mem1) rfl rfl | exact ld_all hT rfl rfl (List.mem_cons_of_mem _ mem1) rfl)
        | ((first | (apply es_load; (iterate 5 exact rfl)) | (apply es_loadL; (iterate 5 exact rfl); first | exact fun _ h => h | (first | exact keep1 mem0 | exact keep1 mem1 | exact keep1 mem2 | exact keep1 mem3 | exact keep1 mem4 | exact keep1 mem5))); first | exact ld_blk hT rfl rfl (List.mem_cons_of_mem _ (List.mem_cons_of_mem _ mem1)) rfl rfl | exact ld_all hT rfl rfl (List.mem_cons_of_mem _ (List.mem_cons_of_mem _ mem1)) rfl)
        | ((first | (apply es_load; (iterate 5 exact rfl)) | (apply es_loadL; (iterate 5 exact rfl); first | exact fun _ h => h | (first | exact keep1 mem0 | exact keep1 mem1 | exact keep1 mem2 | exact keep1 mem3 | exact keep1 mem4 | exact keep1 mem5))); first | exact ld_blk hT rfl rfl (List.mem_cons_of_mem _ (List.mem_cons_of_mem _ (List.mem_cons_of_mem _ mem1))) rfl rfl | exact ld_all hT rfl rfl (List.mem_cons_of_mem _ (List.mem_cons_of_mem _ (List.mem_cons_of_mem _ mem1))) rfl)
        | ((first | (apply es_load; (iterate 5 exact rfl)) | (apply es_loadL; (iterate 5 exact rfl); first | exact fun _ h => h | (first | exact keep1 mem0 | exact keep1 mem1 | exact keep1 mem2 | exact keep1 mem3 | exact keep1 mem4 | exact keep1 mem5))); first | exact ld_blk hT rfl rfl (List.mem_cons_of_mem _ (List.mem_cons_of_mem _ (List.mem_cons_of_mem _ (List.mem_cons_of_mem _ mem1)))) rfl rfl | exact ld_all hT rfl rfl (List.mem_cons_of_mem _ (List.mem_cons_of_mem _ (List.mem_cons_of_mem _ (List.mem_cons_of_mem _ mem1)))) rfl)
        | ((first | (apply es_load; (iterate 5 exact rfl)) | (apply es_loadL; (iterate 5 exact rfl); first | exact fun _ h => h | (first | exact keep1 mem0 | exact keep1 mem1 | exact keep1 mem2 | exact keep1 mem3 | exact keep1 mem4 | exact keep1 mem5))); first | exact ld_blk hT rfl rfl mem2 rfl rfl | exact ld_all hT rfl rfl mem2 rfl)
        | ((first | (apply es_load; (iterate 5 exact rfl)) | (apply es_loadL; (iterate 5 exact rfl); first | exact fun _ h => h | (first | exact keep1 mem0 | exact keep1 mem1 | exact keep1 mem2 | exact keep1 mem3 | exact keep1 mem4 | exact keep1 mem5))); first | exact ld_blk hT rfl rfl (List.mem_cons_of_mem _ mem2) rfl rfl | exact ld_all hT rfl rfl (List.mem_cons_of_mem _ mem2) rfl)
        | ((first | (apply es_load; (iterate 5 exact rfl)) | (apply es_loadL; (iterate 5 exact rfl); first | exact fun _ h => h | (first | exact keep1 mem0 | exact keep1 mem1 | exact keep1 mem2 | exact keep1 mem3 | exact keep1 mem4 | exact keep1 mem5))); first | exact ld_blk hT rfl rfl (List.mem_cons_of_mem _ (List.mem_cons_of_mem _ mem2)) rfl rfl | exact ld_all hT rfl rfl (List.mem_cons_of_mem _ (List.mem_cons_of_mem _ mem2)) rfl)
        | ((first | (apply es_load; (iterate 5 exact rfl)) | (apply es_loadL; (iterate 5 exact rfl); first | exact fun _ h => h | (first | exact keep1 mem0 | exact keep1 mem1 | exact keep1 mem2 | exact keep1 mem3 | exact keep1 mem4 | exact keep1 mem5))); first | exact ld_blk hT rfl rfl (List.mem_cons_of_mem _ (List.mem_cons_of_mem _ (List.mem_cons_of_mem _ mem2))) rfl rfl | exact ld_all hT rfl rfl (List.mem_cons_of_mem _ (List.mem_cons_of_mem _ (List.mem_cons_of_mem _ mem2))) rfl)
        | ((first | (apply es_load; (iterate 5 exact rfl)) | (apply es_loadL; (iterate 5 exact rfl); first | exact fun _ h => h | (first | exact keep1 mem0 | exact keep1 mem1 | exact keep1 mem2 | exact keep1 mem3 | exact keep1 mem4 | exact keep1 mem5))); first | exact ld_blk hT rfl rfl (List.mem_cons_of_mem _ (List.mem_cons_of_mem _ (List.mem_cons_of_mem _ (List.mem_cons_of_mem _ mem2)))) rfl rfl | exact ld_all hT rfl rfl (List.mem_cons_of_mem _ (List.mem_cons_of_mem _ (List.mem_cons_of_mem _ (List.mem_cons_of_mem _ mem2)))) rfl)
        | (apply es_box; (iterate 5 exact rfl); intro _) | (apply es_alloc hT; (iterate 5 exact rfl); intro _)
        | (apply aw_condT; (iterate 2 exact rfl)) | (apply aw_condF; (iterate 2 exact rfl))
        | (apply es_case; exact rfl; all_goals intro hb; all_goals (try simp only [hb]); all_goals (first | replace hb := of_decide_eq_true hb | replace hb := of_decide_eq_false hb | replace hb := bne_t hb | replace hb := bne_f hb | skip); all_goals (try (exfalso; omega)))
        | (apply aw_cond; exact rfl; all_goals intro hb; all_goals (try simp only [hb]); all_goals (first | replace hb := of_decide_eq_true hb | replace hb := of_decide_eq_false hb | replace hb := bne_t hb | replace hb := bne_f hb | skip); all_goals (try (exfalso; omega))))
      all_goals first
        | exact loopq_end (k + 1, (addA x.ask l), A3, c3, A4, c4) (by dsimp only; omega) ⟨by dsimp only; omega, addA_up hup, by dsimp only; omega⟩ ⟨rfl, rfl, rfl, rfl, trivial⟩ (by apply dt_cons; (first | exact sel0 | exact sel1 | exact selS sel1 | exact selS (selS sel1) | exact selS (selS (selS sel1)) | exact selS (selS (selS (selS sel1))) | exact selS (selS (selS (selS (selS sel1)))) | exact selS (selS (selS (selS (selS (selS sel1)))))); apply dt_cons; (first | exact sel0 | exact sel1 | exact selS sel1 | exact selS (selS sel1) | exact selS (selS (selS sel1)) | exact selS (selS (selS (selS sel1))) | exact selS (selS (selS (selS (selS sel1)))) | exact selS (selS (selS (selS (selS (selS sel1)))))); apply dt_cons; (first | exact sel0 | exact sel1 | exact selS sel1 | exact selS (selS sel1) | exact selS (selS (selS sel1)) | exact selS (selS (selS (selS sel1))) | exact selS (selS (selS (selS (selS sel1)))) | exact selS (selS (selS (selS (selS (selS sel1)))))); apply dt_cons; (first | exact sel0 | exact sel1 | exact selS sel1 | exact selS (selS sel1) | exact selS (selS (selS sel1)) | exact selS (selS (selS (selS sel1))) | exact selS (selS (selS (selS (selS sel1)))) | exact selS (selS (selS (selS (selS (selS sel1)))))); (repeat (first | exact dt_end | apply dt_skip)))
        | (exfalso; simp_all; done)
    by_cases k2 : x.kind = 2
    · have hok := lookA_ok (id := x.ask.id) (quote := x.ask.hit) (until_ := x.ask.until_) hup
      have hlen' := hok.2
      have hc1 := fun g => (ask_Look W (.blk g 71 x.ask.enc :: refA q A2 c2 l []) p A1 c1 l x.ask.id x.ask.hit x.ask.until_ (by omega) hup).perm (h' := .blk g 71 x.ask.enc :: refA q A2 c2 l (askTab p A1 c1 l [])) ((selS (selS (selS sel0))).trans ((selS (selS (selS sel0))).cons _))
      generalize hL : lookA x.ask.id x.ask.hit x.ask.until_ l = l' at hc1 hok hlen'
      have hc2 := fun g => (ref18_Look W (askTab p A1 c1 l' [.blk g 71 x.ask.enc]) q A2 c2 l x.ask.id x.ask.hit x.ask.until_ (by omega) hup).perm (h' := askTab p A1 c1 l' (.blk g 71 x.ask.enc :: refA q A2 c2 l [])) ((selS (selS (selS sel0))).trans ((selS (selS (selS sel0))).cons _))
      rw [hL] at hc2
      generalize lookE x.ask.id x.ask.hit x.ask.until_ l = e at hc1 hc2
      have hLn := fun A c => ask_Many W p A c l' (by omega)
      have hLr := fun A c => ref18_Many W q A c l' (by omega)
      generalize manyA l' = nL at hLn hLr
      repeat' (first
        | (apply es_same hT; (iterate 5 exact rfl))
        | (apply es_diff hT; (iterate 5 exact rfl))
        | apply aw_seq | apply aw_region | apply aw_ret | apply aw_skip | apply aw_exit | apply aw_block | apply es_nil
        | (apply es_pure hT; (iterate 4 exact rfl)) | (apply es_skip; (iterate 3 exact rfl)) | (apply es_skip0; (iterate 2 exact rfl))
        | (apply es_i64 hT; (iterate 4 exact rfl); (iterate 2 omega))
        | (apply es_idx hT; (iterate 8 exact rfl); (iterate 2 omega); exact hA)
        | ((first | (apply es_load; (iterate 5 exact rfl)) | (apply es_loadL; (iterate 5 exact rfl); first | exact fun _ h => h | (first | exact keep1 mem0 | exact keep1 mem1 | exact keep1 mem2 | exact keep1 mem3 | exact keep1 mem4 | exact keep1 mem5))); first | exact ld_fld hT rfl rfl (hr0.mono (by simp)) Act18.enc_len (adr_add _ _ _) hx2 (f := 0) (by decide) rfl | exact ld_sub hT rfl rfl (hr0.mono (by simp)) Act18.enc_len (adr_add _ _ _) hx2 (f := 1) (vs := x.ask.enc) (Nat.le_of_ble_eq_true rfl) rfl rfl)
        | (apply es_alloc hT; (iterate 5 exact rfl); intro g6)
        | (apply es_store hT; (iterate 6 exact rfl); exact sel0; (iterate 3 exact rfl); exact Nat.le_of_ble_eq_true rfl)
        | (apply aw_treeH [.blk g6 71 x.ask.enc] [] [38, 39] (.step 0 <| .step 1 <| .step 2 <| .step 3 <| .step 4 <| .step 5 <| .step 6 <| .step 8 <| .step 9 <| .step 10 <| .step 11 <| .step 12 <| .step 13 <| .step 14 <| .step 7 <| .step 15 <| .step 16 <| .step 17 <| .nil) hmix; decide +kernel) | apply ep_nil | apply ep_alt | (apply ep_step; exact rfl)
        | (apply es_callG (hs := (hc1 _)); (iterate 7 exact rfl); (rintro _ _ ⟨rfl, rfl⟩; refine ⟨by (first | exact keep1 mem0 | exact keep1 mem1 | exact keep1 mem2 | exact keep1 mem3 | exact keep1 mem4 | exact keep1 mem5), ?_⟩))
        | (apply es_callG (hs := (hc2 _)); (iterate 7 exact rfl); (rintro _ _ ⟨rfl, rfl⟩; refine ⟨by (first | exact keep1 mem0 | exact keep1 mem1 | exact keep1 mem2 | exact keep1 mem3 | exact keep1 mem4 | exact keep1 mem5), ?_⟩))
        | (apply aw_tree [] [47] (.step 0 <| .step 1 <| .step 2 <| .step 3 <| .step 5 <| .step 6 <| .step 7 <| .step 8 <| .step 4 <| .step 9 <| .step 10 <| .step 11 <| .step 12 <| .step 13 <| .step 15 <| .step 14 <| .step 16 <| .step 17 <| .step 18 <| .nil) hmix; decide +kernel) | apply ep_nil | apply ep_alt | (apply ep_step; exact rfl)
        | (apply es_callA (hs := (ask_AllM W _ p A1 c1 l' mem2 mem3 (by omega))); (iterate 7 exact rfl); (rintro _ _ ⟨AO, cO, rfl, rfl, hfO⟩; refine ⟨[_], rfl, ?_⟩))
        | (apply es_callQ (hs := (ref18_SameM W _ _ _ _ _ l' hfO mem0 mem2 (by omega))); (iterate 7 exact rfl))
        | (apply es_callQ (hs := ((hLn A1 c1).mono (memPair mem3 mem4))); (iterate 7 exact rfl))
        | (apply es_callQ (hs := ((hLr A2 c2).mono (memPair mem1 mem2))); (iterate 7 exact rfl))
        | ((first | (apply es_load; (iterate 5 exact rfl)) | (apply es_loadL; (iterate 5 exact rfl); first | exact fun _ h => h | (first | exact keep1 mem0 | exact keep1 mem1 | exact keep1 mem2 | exact keep1 mem3 | exact keep1 mem4 | exact keep1 mem5))); first | exact ld_blk hT rfl rfl mem0 rfl rfl | exact ld_all hT rfl rfl mem0 rfl)
        | ((first | (apply es_load; (iterate 5 exact rfl)) | (apply es_loadL; (iterate 5 exact rfl); first | exact fun _ h => h | (first | exact keep1 mem0 | exact keep1 mem1 | exact keep1 mem2 | exact keep1 mem3 | exact keep1 mem4 | exact keep1 mem5))); first | exact ld_blk hT rfl rfl mem1 rfl rfl | exact ld_all hT rfl rfl mem1 rfl)
        | ((first | (apply es_load; (iterate 5 exact rfl)) | (apply es_loadL; (iterate 5 exact rfl); first | exact fun _ h => h | (first | exact keep1 mem0 | exact keep1 mem1 | exact keep1 mem2 | exact keep1 mem3 | exact keep1 mem4 | exact keep1 mem5))); first | exact ld_blk hT rfl rfl mem2 rfl rfl | exact ld_all hT rfl rfl mem2 rfl)
        | ((first | (apply es_load; (iterate 5 exact rfl)) | (apply es_loadL; (iterate 5 exact rfl); first | exact fun _ h => h | (first | exact keep1 mem0 | exact keep1 mem1 | exact keep1 mem2 | exact keep1 mem3 | exact keep1 mem4 | exact keep1 mem5))); first | exact ld_blk hT rfl rfl mem0 rfl rfl | exact ld_all hT rfl rfl mem0 rfl)
        | ((first | (apply es_load; (iterate 5 exact rfl)) | (apply es_loadL; (iterate 5 exact rfl); first | exact fun _ h => h | (first | exact keep1 mem0 | exact keep1 mem1 | exact keep1 mem2 | exact keep1 mem3 | exact keep1 mem4 | exact keep1 mem5))); first | exact ld_blk hT rfl rfl (List.mem_cons_of_mem _ mem0) rfl rfl | exact ld_all hT rfl rfl (List.mem_cons_of_mem _ mem0) rfl)
        | ((first | (apply es_load; (iterate 5 exact rfl)) | (apply es_loadL; (iterate 5 exact rfl); first | exact fun _ h => h | (first | exact keep1 mem0 | exact keep1 mem1 | exact keep1 mem2 | exact keep1 mem3 | exact keep1 mem4 | exact keep1 mem5))); first | exact ld_blk hT rfl rfl (List.mem_cons_of_mem _ (List.mem_cons_of_mem _ mem0)) rfl rfl | exact ld_all hT rfl rfl (List.mem_cons_of_mem _ (List.mem_cons_of_mem _ mem0)) rfl)
        | ((first | (apply es_load; (iterate 5 exact rfl)) | (apply es_loadL; (iterate 5 exact rfl); first | exact fun _ h => h | (first | exact keep1 mem0 | exact keep1 mem1 | exact keep1 mem2 | exact keep1 mem3 | exact keep1 mem4 | exact keep1 mem5))); first | exact ld_blk hT rfl rfl (List.mem_cons_of_mem _ (List.mem_cons_of_mem _ (List.mem_cons_of_mem _ mem0))) rfl rfl | exact ld_all hT rfl rfl (List.mem_cons_of_mem _ (List.mem_cons_of_mem _ (List.mem_cons_of_mem _ mem0))) rfl)
        | ((first | (apply es_load; (iterate 5 exact rfl)) | (apply es_loadL; (iterate 5 exact rfl); first | exact fun _ h => h | (first | exact keep1 mem0 | exact keep1 mem1 | exact keep1 mem2 | exact keep1 mem3 | exact keep1 mem4 | exact keep1 mem5))); first | exact ld_blk hT rfl rfl (List.mem_cons_of_mem _ (List.mem_cons_of_mem _ (List.mem_cons_of_mem _ (List.mem_cons_of_mem _ mem0)))) rfl rfl | exact ld_all hT rfl rfl (List.mem_cons_of_mem _ (List.mem_cons_of_mem _ (List.mem_cons_of_mem _ (List.mem_cons_of_mem _ mem0)))) rfl)
        | ((first | (apply es_load; (iterate 5 exact rfl)) | (apply es_loadL; (iterate 5 exact rfl); first | exact fun _ h => h | (first | exact keep1 mem0 | exact keep1 mem1 | exact keep1 mem2 | exact keep1 mem3 | exact keep1 mem4 | exact keep1 mem5))); first | exact ld_blk hT rfl rfl mem1 rfl rfl | exact ld_all hT rfl rfl mem1 rfl)
        | ((first | (apply es_load; (iterate 5 exact rfl)) | (apply es_loadL; (iterate 5 exact rfl); first | exact fun _ h => h | (first | exact keep1 mem0 | exact keep1 mem1 | exact keep1 mem2 | exact keep1 mem3 | exact keep1 mem4 | exact keep1 mem5))); first | exact ld_blk hT rfl rfl (List.mem_cons_of_mem _ mem1) rfl rfl | exact ld_all hT rfl rfl (List.mem_cons_of_mem _ mem1) rfl)
        | ((first | (apply es_load; (iterate 5 exact rfl)) | (apply es_loadL; (iterate 5 exact rfl); first | exact fun _ h => h | (first | exact keep1 mem0 | exact keep1 mem1 | exact keep1 mem2 | exact keep1 mem3 | exact keep1 mem4 | exact keep1 mem5))); first | exact ld_blk hT rfl rfl (List.mem_cons_of_mem _ (List.mem_cons_of_mem _ mem1)) rfl rfl | exact ld_all hT rfl rfl (List.mem_cons_of_mem _ (List.mem_cons_of_mem _ mem1)) rfl)
        | ((first | (apply es_load; (iterate 5 exact rfl)) | (apply es_loadL; (iterate 5 exact rfl); first | exact fun _ h => h | (first | exact keep1 mem0 | exact keep1 mem1 | exact keep1 mem2 | exact keep1 mem3 | exact keep1 mem4 | exact keep1 mem5))); first | exact ld_blk hT rfl rfl (List.mem_cons_of_mem _ (List.mem_cons_of_mem _ (List.mem_cons_of_mem _ mem1))) rfl rfl | exact ld_all hT rfl rfl (List.mem_cons_of_mem _ (List.mem_cons_of_mem _ (List.mem_cons_of_mem _ mem1))) rfl)
        | ((first | (apply es_load; (iterate 5 exact rfl)) | (apply es_loadL; (iterate 5 exact rfl); first | exact fun _ h => h | (first | exact keep1 mem0 | exact keep1 mem1 | exact keep1 mem2 | exact keep1 mem3 | exact keep1 mem4 | exact keep1 mem5))); first | exact ld_blk hT rfl rfl (List.mem_cons_of_mem _ (List.mem_cons_of_mem _ (List.mem_cons_of_mem _ (List.mem_cons_of_mem _ mem1)))) rfl rfl | exact ld_all hT rfl rfl (List.mem_cons_of_mem _ (List.mem_cons_of_mem _ (List.mem_cons_of_mem _ (List.mem_cons_of_mem _ mem1)))) rfl)
        | ((first | (apply es_load; (iterate 5 exact rfl)) | (apply es_loadL; (iterate 5 exact rfl); first | exact fun _ h => h | (first | exact keep1 mem0 | exact keep1 mem1 | exact keep1 mem2 | exact keep1 mem3 | exact keep1 mem4 | exact keep1 mem5))); first | exact ld_blk hT rfl rfl mem2 rfl rfl | exact ld_all hT rfl rfl mem2 rfl)
        | ((first | (apply es_load; (iterate 5 exact rfl)) | (apply es_loadL; (iterate 5 exact rfl); first | exact fun _ h => h | (first | exact keep1 mem0 | exact keep1 mem1 | exact keep1 mem2 | exact keep1 mem3 | exact keep1 mem4 | exact keep1 mem5))); first | exact ld_blk hT rfl rfl (List.mem_cons_of_mem _ mem2) rfl rfl | exact ld_all hT rfl rfl (List.mem_cons_of_mem _ mem2) rfl)
        | ((first | (apply es_load; (iterate 5 exact rfl)) | (apply es_loadL; (iterate 5 exact rfl); first | exact fun _ h => h | (first | exact keep1 mem0 | exact keep1 mem1 | exact keep1 mem2 | exact keep1 mem3 | exact keep1 mem4 | exact keep1 mem5))); first | exact ld_blk hT rfl rfl (List.mem_cons_of_mem _ (List.mem_cons_of_mem _ mem2)) rfl rfl | exact ld_all hT rfl rfl (List.mem_cons_of_mem _ (List.mem_cons_of_mem _ mem2)) rfl)
        | ((first | (apply es_load; (iterate 5 exact rfl)) | (apply es_loadL; (iterate 5 exact rfl); first | exact fun _ h => h | (first | exact keep1 mem0 | exact keep1 mem1 | exact keep1 mem2 | exact keep1 mem3 | exact keep1 mem4 | exact keep1 mem5))); first | exact ld_blk hT rfl rfl (List.mem_cons_of_mem _ (List.mem_cons_of_mem _ (List.mem_cons_of_mem _ mem2))) rfl rfl | exact ld_all hT rfl rfl (List.mem_cons_of_mem _ (List.mem_cons_of_mem _ (List.mem_cons_of_mem _ mem2))) rfl)
        | ((first | (apply es_load; (iterate 5 exact rfl)) | (apply es_loadL; (iterate 5 exact rfl); first | exact fun _ h => h | (first | exact keep1 mem0 | exact keep1 mem1 | exact keep1 mem2 | exact keep1 mem3 | exact keep1 mem4 | exact keep1 mem5))); first | exact ld_blk hT rfl rfl (List.mem_cons_of_mem _ (List.mem_cons_of_mem _ (List.mem_cons_of_mem _ (List.mem_cons_of_mem _ mem2)))) rfl rfl | exact ld_all hT rfl rfl (List.mem_cons_of_mem _ (List.mem_cons_of_mem _ (List.mem_cons_of_mem _ (List.mem_cons_of_mem _ mem2)))) rfl)
        | (apply es_box; (iterate 5 exact rfl); intro _) | (apply es_alloc hT; (iterate 5 exact rfl); intro _)
        | (apply aw_condT; (iterate 2 exact rfl)) | (apply aw_condF; (iterate 2 exact rfl))
        | (apply es_case; exact rfl; all_goals intro hb; all_goals (try simp only [hb]); all_goals (first | replace hb := of_decide_eq_true hb | replace hb := of_decide_eq_false hb | replace hb := bne_t hb | replace hb := bne_f hb | skip); all_goals (try (exfalso; omega)))
        | (apply aw_cond; exact rfl; all_goals intro hb; all_goals (try simp only [hb]); all_goals (first | replace hb := of_decide_eq_true hb | replace hb := of_decide_eq_false hb | replace hb := bne_t hb | replace hb := bne_f hb | skip); all_goals (try (exfalso; omega))))
      all_goals first
        | exact loopq_end (k + 1, l', A1, c1, A2, c2) (by dsimp only; omega) ⟨by dsimp only; omega, hok.1, by dsimp only; omega⟩ ⟨rfl, rfl, rfl, rfl, trivial⟩ (by apply dt_cons; (first | exact sel0 | exact sel1 | exact selS sel1 | exact selS (selS sel1) | exact selS (selS (selS sel1)) | exact selS (selS (selS (selS sel1))) | exact selS (selS (selS (selS (selS sel1)))) | exact selS (selS (selS (selS (selS (selS sel1)))))); apply dt_cons; (first | exact sel0 | exact sel1 | exact selS sel1 | exact selS (selS sel1) | exact selS (selS (selS sel1)) | exact selS (selS (selS (selS sel1))) | exact selS (selS (selS (selS (selS sel1)))) | exact selS (selS (selS (selS (selS (selS sel1)))))); apply dt_cons; (first | exact sel0 | exact sel1 | exact selS sel1 | exact selS (selS sel1) | exact selS (selS (selS sel1)) | exact selS (selS (selS (selS sel1))) | exact selS (selS (selS (selS (selS sel1)))) | exact selS (selS (selS (selS (selS (selS sel1)))))); apply dt_cons; (first | exact sel0 | exact sel1 | exact selS sel1 | exact selS (selS sel1) | exact selS (selS (selS sel1)) | exact selS (selS (selS (selS sel1))) | exact selS (selS (selS (selS (selS sel1)))) | exact selS (selS (selS (selS (selS (selS sel1)))))); (repeat (first | exact dt_end | apply dt_skip)))
        | (exfalso; simp_all; done)
    by_cases k3 : x.kind = 3
    · have hok := backA_ok (id := x.ask.id) hup
      have hlen' := hok.2
      have hc1 := fun g => (ask_Back W (.blk g 71 x.ask.enc :: refA q A2 c2 l []) p A1 c1 l x.ask.id (by omega) hup).perm (h' := .blk g 71 x.ask.enc :: refA q A2 c2 l (askTab p A1 c1 l [])) ((selS (selS (selS sel0))).trans ((selS (selS (selS sel0))).cons _))
      generalize hL : backA x.ask.id l = l' at hc1 hok hlen'
      have hc2 := fun g => (ref18_Back W (askTab p A1 c1 l' [.blk g 71 x.ask.enc]) q A2 c2 l x.ask.id (by omega) hup).perm (h' := askTab p A1 c1 l' (.blk g 71 x.ask.enc :: refA q A2 c2 l [])) ((selS (selS (selS sel0))).trans ((selS (selS (selS sel0))).cons _))
      rw [hL] at hc2
      generalize backE x.ask.id l = e at hc1 hc2
      have hLn := fun A c => ask_Many W p A c l' (by omega)
      have hLr := fun A c => ref18_Many W q A c l' (by omega)
      generalize manyA l' = nL at hLn hLr
      repeat' (first
        | (apply es_same hT; (iterate 5 exact rfl))
        | (apply es_diff hT; (iterate 5 exact rfl))
        | apply aw_seq | apply aw_region | apply aw_ret | apply aw_skip | apply aw_exit | apply aw_block | apply es_nil
        | (apply es_pure hT; (iterate 4 exact rfl)) | (apply es_skip; (iterate 3 exact rfl)) | (apply es_skip0; (iterate 2 exact rfl))
        | (apply es_i64 hT; (iterate 4 exact rfl); (iterate 2 omega))
        | (apply es_idx hT; (iterate 8 exact rfl); (iterate 2 omega); exact hA)
        | ((first | (apply es_load; (iterate 5 exact rfl)) | (apply es_loadL; (iterate 5 exact rfl); first | exact fun _ h => h | (first | exact keep1 mem0 | exact keep1 mem1 | exact keep1 mem2 | exact keep1 mem3 | exact keep1 mem4 | exact keep1 mem5))); first | exact ld_fld hT rfl rfl (hr0.mono (by simp)) Act18.enc_len (adr_add _ _ _) hx2 (f := 0) (by decide) rfl | exact ld_sub hT rfl rfl (hr0.mono (by simp)) Act18.enc_len (adr_add _ _ _) hx2 (f := 1) (vs := x.ask.enc) (Nat.le_of_ble_eq_true rfl) rfl rfl)
        | (apply es_alloc hT; (iterate 5 exact rfl); intro g6)
        | (apply es_store hT; (iterate 6 exact rfl); exact sel0; (iterate 3 exact rfl); exact Nat.le_of_ble_eq_true rfl)
        | (apply aw_treeH [.blk g6 71 x.ask.enc] [] [40, 41] (.step 0 <| .step 1 <| .step 2 <| .step 4 <| .step 5 <| .step 6 <| .step 3 <| .step 7 <| .step 8 <| .step 9 <| .nil) hmix; decide +kernel) | apply ep_nil | apply ep_alt | (apply ep_step; exact rfl)
        | (apply es_callG (hs := (hc1 _)); (iterate 7 exact rfl); (rintro _ _ ⟨rfl, rfl⟩; refine ⟨by (first | exact keep1 mem0 | exact keep1 mem1 | exact keep1 mem2 | exact keep1 mem3 | exact keep1 mem4 | exact keep1 mem5), ?_⟩))
        | (apply es_callG (hs := (hc2 _)); (iterate 7 exact rfl); (rintro _ _ ⟨rfl, rfl⟩; refine ⟨by (first | exact keep1 mem0 | exact keep1 mem1 | exact keep1 mem2 | exact keep1 mem3 | exact keep1 mem4 | exact keep1 mem5), ?_⟩))
        | (apply aw_tree [] [47] (.step 0 <| .step 1 <| .step 2 <| .step 3 <| .step 5 <| .step 6 <| .step 7 <| .step 8 <| .step 4 <| .step 9 <| .step 10 <| .step 11 <| .step 12 <| .step 13 <| .step 15 <| .step 14 <| .step 16 <| .step 17 <| .step 18 <| .nil) hmix; decide +kernel) | apply ep_nil | apply ep_alt | (apply ep_step; exact rfl)
        | (apply es_callA (hs := (ask_AllM W _ p A1 c1 l' mem2 mem3 (by omega))); (iterate 7 exact rfl); (rintro _ _ ⟨AO, cO, rfl, rfl, hfO⟩; refine ⟨[_], rfl, ?_⟩))
        | (apply es_callQ (hs := (ref18_SameM W _ _ _ _ _ l' hfO mem0 mem2 (by omega))); (iterate 7 exact rfl))
        | (apply es_callQ (hs := ((hLn A1 c1).mono (memPair mem3 mem4))); (iterate 7 exact rfl))
        | (apply es_callQ (hs := ((hLr A2 c2).mono (memPair mem1 mem2))); (iterate 7 exact rfl))
        | ((first | (apply es_load; (iterate 5 exact rfl)) | (apply es_loadL; (iterate 5 exact rfl); first | exact fun _ h => h | (first | exact keep1 mem0 | exact keep1 mem1 | exact keep1 mem2 | exact keep1 mem3 | exact keep1 mem4 | exact keep1 mem5))); first | exact ld_blk hT rfl rfl mem0 rfl rfl | exact ld_all hT rfl rfl mem0 rfl)
        | ((first | (apply es_load; (iterate 5 exact rfl)) | (apply es_loadL; (iterate 5 exact rfl); first | exact fun _ h => h | (first | exact keep1 mem0 | exact keep1 mem1 | exact keep1 mem2 | exact keep1 mem3 | exact keep1 mem4 | exact keep1 mem5))); first | exact ld_blk hT rfl rfl mem1 rfl rfl | exact ld_all hT rfl rfl mem1 rfl)
        | ((first | (apply es_load; (iterate 5 exact rfl)) | (apply es_loadL; (iterate 5 exact rfl); first | exact fun _ h => h | (first | exact keep1 mem0 | exact keep1 mem1 | exact keep1 mem2 | exact keep1 mem3 | exact keep1 mem4 | exact keep1 mem5))); first | exact ld_blk hT rfl rfl mem2 rfl rfl | exact ld_all hT rfl rfl mem2 rfl)
        | ((first | (apply es_load; (iterate 5 exact rfl)) | (apply es_loadL; (iterate 5 exact rfl); first | exact fun _ h => h | (first | exact keep1 mem0 | exact keep1 mem1 | exact keep1 mem2 | exact keep1 mem3 | exact keep1 mem4 | exact keep1 mem5))); first | exact ld_blk hT rfl rfl mem0 rfl rfl | exact ld_all hT rfl rfl mem0 rfl)
        | ((first | (apply es_load; (iterate 5 exact rfl)) | (apply es_loadL; (iterate 5 exact rfl); first | exact fun _ h => h | (first | exact keep1 mem0 | exact keep1 mem1 | exact keep1 mem2 | exact keep1 mem3 | exact keep1 mem4 | exact keep1 mem5))); first | exact ld_blk hT rfl rfl (List.mem_cons_of_mem _ mem0) rfl rfl | exact ld_all hT rfl rfl (List.mem_cons_of_mem _ mem0) rfl)
        | ((first | (apply es_load; (iterate 5 exact rfl)) | (apply es_loadL; (iterate 5 exact rfl); first | exact fun _ h => h | (first | exact keep1 mem0 | exact keep1 mem1 | exact keep1 mem2 | exact keep1 mem3 | exact keep1 mem4 | exact keep1 mem5))); first | exact ld_blk hT rfl rfl (List.mem_cons_of_mem _ (List.mem_cons_of_mem _ mem0)) rfl rfl | exact ld_all hT rfl rfl (List.mem_cons_of_mem _ (List.mem_cons_of_mem _ mem0)) rfl)
        | ((first | (apply es_load; (iterate 5 exact rfl)) | (apply es_loadL; (iterate 5 exact rfl); first | exact fun _ h => h | (first | exact keep1 mem0 | exact keep1 mem1 | exact keep1 mem2 | exact keep1 mem3 | exact keep1 mem4 | exact keep1 mem5))); first | exact ld_blk hT rfl rfl (List.mem_cons_of_mem _ (List.mem_cons_of_mem _ (List.mem_cons_of_mem _ mem0))) rfl rfl | exact ld_all hT rfl rfl (List.mem_cons_of_mem _ (List.mem_cons_of_mem _ (List.mem_cons_of_mem _ mem0))) rfl)
        | ((first | (apply es_load; (iterate 5 exact rfl)) | (apply es_loadL; (iterate 5 exact rfl); first | exact fun _ h => h | (first | exact keep1 mem0 | exact keep1 mem1 | exact keep1 mem2 | exact keep1 mem3 | exact keep1 mem4 | exact keep1 mem5))); first | exact ld_blk hT rfl rfl (List.mem_cons_of_mem _ (List.mem_cons_of_mem _ (List.mem_cons_of_mem _ (List.mem_cons_of_mem _ mem0)))) rfl rfl | exact ld_all hT rfl rfl (List.mem_cons_of_mem _ (List.mem_cons_of_mem _ (List.mem_cons_of_mem _ (List.mem_cons_of_mem _ mem0)))) rfl)
        | ((first | (apply es_load; (iterate 5 exact rfl)) | (apply es_loadL; (iterate 5 exact rfl); first | exact fun _ h => h | (first | exact keep1 mem0 | exact keep1 mem1 | exact keep1 mem2 | exact keep1 mem3 | exact keep1 mem4 | exact keep1 mem5))); first | exact ld_blk hT rfl rfl mem1 rfl rfl | exact ld_all hT rfl rfl mem1 rfl)
        | ((first | (apply es_load; (iterate 5 exact rfl)) | (apply es_loadL; (iterate 5 exact rfl); first | exact fun _ h => h | (first | exact keep1 mem0 | exact keep1 mem1 | exact keep1 mem2 | exact keep1 mem3 | exact keep1 mem4 | exact keep1 mem5))); first | exact ld_blk hT rfl rfl (List.mem_cons_of_mem _ mem1) rfl rfl | exact ld_all hT rfl rfl (List.mem_cons_of_mem _ mem1) rfl)
        | ((first | (apply es_load; (iterate 5 exact rfl)) | (apply es_loadL; (iterate 5 exact rfl); first | exact fun _ h => h | (first | exact keep1 mem0 | exact keep1 mem1 | exact keep1 mem2 | exact keep1 mem3 | exact keep1 mem4 | exact keep1 mem5))); first | exact ld_blk hT rfl rfl (List.mem_cons_of_mem _ (List.mem_cons_of_mem _ mem1)) rfl rfl | exact ld_all hT rfl rfl (List.mem_cons_of_mem _ (List.mem_cons_of_mem _ mem1)) rfl)
        | ((first | (apply es_load; (iterate 5 exact rfl)) | (apply es_loadL; (iterate 5 exact rfl); first | exact fun _ h => h | (first | exact keep1 mem0 | exact keep1 mem1 | exact keep1 mem2 | exact keep1 mem3 | exact keep1 mem4 | exact keep1 mem5))); first | exact ld_blk hT rfl rfl (List.mem_cons_of_mem _ (List.mem_cons_of_mem _ (List.mem_cons_of_mem _ mem1))) rfl rfl | exact ld_all hT rfl rfl (List.mem_cons_of_mem _ (List.mem_cons_of_mem _ (List.mem_cons_of_mem _ mem1))) rfl)
        | ((first | (apply es_load; (iterate 5 exact rfl)) | (apply es_loadL; (iterate 5 exact rfl); first | exact fun _ h => h | (first | exact keep1 mem0 | exact keep1 mem1 | exact keep1 mem2 | exact keep1 mem3 | exact keep1 mem4 | exact keep1 mem5))); first | exact ld_blk hT rfl rfl (List.mem_cons_of_mem _ (List.mem_cons_of_mem _ (List.mem_cons_of_mem _ (List.mem_cons_of_mem _ mem1)))) rfl rfl | exact ld_all hT rfl rfl (List.mem_cons_of_mem _ (List.mem_cons_of_mem _ (List.mem_cons_of_mem _ (List.mem_cons_of_mem _ mem1)))) rfl)
        | ((first | (apply es_load; (iterate 5 exact rfl)) | (apply es_loadL; (iterate 5 exact rfl); first | exact fun _ h => h | (first | exact keep1 mem0 | exact keep1 mem1 | exact keep1 mem2 | exact keep1 mem3 | exact keep1 mem4 | exact keep1 mem5))); first | exact ld_blk hT rfl rfl mem2 rfl rfl | exact ld_all hT rfl rfl mem2 rfl)
        | ((first | (apply es_load; (iterate 5 exact rfl)) | (apply es_loadL; (iterate 5 exact rfl); first | exact fun _ h => h | (first | exact keep1 mem0 | exact keep1 mem1 | exact keep1 mem2 | exact keep1 mem3 | exact keep1 mem4 | exact keep1 mem5))); first | exact ld_blk hT rfl rfl (List.mem_cons_of_mem _ mem2) rfl rfl | exact ld_all hT rfl rfl (List.mem_cons_of_mem _ mem2) rfl)
        | ((first | (apply es_load; (iterate 5 exact rfl)) | (apply es_loadL; (iterate 5 exact rfl); first | exact fun _ h => h | (first | exact keep1 mem0 | exact keep1 mem1 | exact keep1 mem2 | exact keep1 mem3 | exact keep1 mem4 | exact keep1 mem5))); first | exact ld_blk hT rfl rfl (List.mem_cons_of_mem _ (List.mem_cons_of_mem _ mem2)) rfl rfl | exact ld_all hT rfl rfl (List.mem_cons_of_mem _ (List.mem_cons_of_mem _ mem2)) rfl)
        | ((first | (apply es_load; (iterate 5 exact rfl)) | (apply es_loadL; (iterate 5 exact rfl); first | exact fun _ h => h | (first | exact keep1 mem0 | exact keep1 mem1 | exact keep1 mem2 | exact keep1 mem3 | exact keep1 mem4 | exact keep1 mem5))); first | exact ld_blk hT rfl rfl (List.mem_cons_of_mem _ (List.mem_cons_of_mem _ (List.mem_cons_of_mem _ mem2))) rfl rfl | exact ld_all hT rfl rfl (List.mem_cons_of_mem _ (List.mem_cons_of_mem _ (List.mem_cons_of_mem _ mem2))) rfl)
        | ((first | (apply es_load; (iterate 5 exact rfl)) | (apply es_loadL; (iterate 5 exact rfl); first | exact fun _ h => h | (first | exact keep1 mem0 | exact keep1 mem1 | exact keep1 mem2 | exact keep1 mem3 | exact keep1 mem4 | exact keep1 mem5))); first | exact ld_blk hT rfl rfl (List.mem_cons_of_mem _ (List.mem_cons_of_mem _ (List.mem_cons_of_mem _ (List.mem_cons_of_mem _ mem2)))) rfl rfl | exact ld_all hT rfl rfl (List.mem_cons_of_mem _ (List.mem_cons_of_mem _ (List.mem_cons_of_mem _ (List.mem_cons_of_mem _ mem2)))) rfl)
        | (apply es_box; (iterate 5 exact rfl); intro _) | (apply es_alloc hT; (iterate 5 exact rfl); intro _)
        | (apply aw_condT; (iterate 2 exact rfl)) | (apply aw_condF; (iterate 2 exact rfl))
        | (apply es_case; exact rfl; all_goals intro hb; all_goals (try simp only [hb]); all_goals (first | replace hb := of_decide_eq_true hb | replace hb := of_decide_eq_false hb | replace hb := bne_t hb | replace hb := bne_f hb | skip); all_goals (try (exfalso; omega)))
        | (apply aw_cond; exact rfl; all_goals intro hb; all_goals (try simp only [hb]); all_goals (first | replace hb := of_decide_eq_true hb | replace hb := of_decide_eq_false hb | replace hb := bne_t hb | replace hb := bne_f hb | skip); all_goals (try (exfalso; omega))))
      all_goals first
        | exact loopq_end (k + 1, l', A1, c1, A2, c2) (by dsimp only; omega) ⟨by dsimp only; omega, hok.1, by dsimp only; omega⟩ ⟨rfl, rfl, rfl, rfl, trivial⟩ (by apply dt_cons; (first | exact sel0 | exact sel1 | exact selS sel1 | exact selS (selS sel1) | exact selS (selS (selS sel1)) | exact selS (selS (selS (selS sel1))) | exact selS (selS (selS (selS (selS sel1)))) | exact selS (selS (selS (selS (selS (selS sel1)))))); apply dt_cons; (first | exact sel0 | exact sel1 | exact selS sel1 | exact selS (selS sel1) | exact selS (selS (selS sel1)) | exact selS (selS (selS (selS sel1))) | exact selS (selS (selS (selS (selS sel1)))) | exact selS (selS (selS (selS (selS (selS sel1)))))); apply dt_cons; (first | exact sel0 | exact sel1 | exact selS sel1 | exact selS (selS sel1) | exact selS (selS (selS sel1)) | exact selS (selS (selS (selS sel1))) | exact selS (selS (selS (selS (selS sel1)))) | exact selS (selS (selS (selS (selS (selS sel1)))))); apply dt_cons; (first | exact sel0 | exact sel1 | exact selS sel1 | exact selS (selS sel1) | exact selS (selS (selS sel1)) | exact selS (selS (selS (selS sel1))) | exact selS (selS (selS (selS (selS sel1)))) | exact selS (selS (selS (selS (selS (selS sel1)))))); (repeat (first | exact dt_end | apply dt_skip)))
        | (exfalso; simp_all; done)
    by_cases k4 : x.kind = 4
    · have hok := endA_ok (id := x.ask.id) (state := x.ask.state) hup
      have hlen' := hok.2
      have hc1 := fun g => (ask_End W (.blk g 71 x.ask.enc :: refA q A2 c2 l []) p A1 c1 l x.ask.id x.ask.state (by omega) hup).perm (h' := .blk g 71 x.ask.enc :: refA q A2 c2 l (askTab p A1 c1 l [])) ((selS (selS (selS sel0))).trans ((selS (selS (selS sel0))).cons _))
      generalize hL : endA x.ask.id x.ask.state l = l' at hc1 hok hlen'
      have hc2 := fun g => (ref18_End W (askTab p A1 c1 l' [.blk g 71 x.ask.enc]) q A2 c2 l x.ask.id x.ask.state (by omega) hup).perm (h' := askTab p A1 c1 l' (.blk g 71 x.ask.enc :: refA q A2 c2 l [])) ((selS (selS (selS sel0))).trans ((selS (selS (selS sel0))).cons _))
      rw [hL] at hc2
      generalize endE x.ask.id x.ask.state l = e at hc1 hc2
      have hLn := fun A c => ask_Many W p A c l' (by omega)
      have hLr := fun A c => ref18_Many W q A c l' (by omega)
      generalize manyA l' = nL at hLn hLr
      repeat' (first
        | (apply es_same hT; (iterate 5 exact rfl))
        | (apply es_diff hT; (iterate 5 exact rfl))
        | apply aw_seq | apply aw_region | apply aw_ret | apply aw_skip | apply aw_exit | apply aw_block | apply es_nil
        | (apply es_pure hT; (iterate 4 exact rfl)) | (apply es_skip; (iterate 3 exact rfl)) | (apply es_skip0; (iterate 2 exact rfl))
        | (apply es_i64 hT; (iterate 4 exact rfl); (iterate 2 omega))
        | (apply es_idx hT; (iterate 8 exact rfl); (iterate 2 omega); exact hA)
        | ((first | (apply es_load; (iterate 5 exact rfl)) | (apply es_loadL; (iterate 5 exact rfl); first | exact fun _ h => h | (first | exact keep1 mem0 | exact keep1 mem1 | exact keep1 mem2 | exact keep1 mem3 | exact keep1 mem4 | exact keep1 mem5))); first | exact ld_fld hT rfl rfl (hr0.mono (by simp)) Act18.enc_len (adr_add _ _ _) hx2 (f := 0) (by decide) rfl | exact ld_sub hT rfl rfl (hr0.mono (by simp)) Act18.enc_len (adr_add _ _ _) hx2 (f := 1) (vs := x.ask.enc) (Nat.le_of_ble_eq_true rfl) rfl rfl)
        | (apply es_alloc hT; (iterate 5 exact rfl); intro g6)
        | (apply es_store hT; (iterate 6 exact rfl); exact sel0; (iterate 3 exact rfl); exact Nat.le_of_ble_eq_true rfl)
        | (apply aw_treeH [.blk g6 71 x.ask.enc] [] [42, 43] (.step 0 <| .step 1 <| .step 2 <| .step 3 <| .step 4 <| .step 6 <| .step 7 <| .step 8 <| .step 9 <| .step 10 <| .step 5 <| .step 11 <| .step 12 <| .step 13 <| .nil) hmix; decide +kernel) | apply ep_nil | apply ep_alt | (apply ep_step; exact rfl)
        | (apply es_callG (hs := (hc1 _)); (iterate 7 exact rfl); (rintro _ _ ⟨rfl, rfl⟩; refine ⟨by (first | exact keep1 mem0 | exact keep1 mem1 | exact keep1 mem2 | exact keep1 mem3 | exact keep1 mem4 | exact keep1 mem5), ?_⟩))
        | (apply es_callG (hs := (hc2 _)); (iterate 7 exact rfl); (rintro _ _ ⟨rfl, rfl⟩; refine ⟨by (first | exact keep1 mem0 | exact keep1 mem1 | exact keep1 mem2 | exact keep1 mem3 | exact keep1 mem4 | exact keep1 mem5), ?_⟩))
        | (apply aw_tree [] [47] (.step 0 <| .step 1 <| .step 2 <| .step 3 <| .step 5 <| .step 6 <| .step 7 <| .step 8 <| .step 4 <| .step 9 <| .step 10 <| .step 11 <| .step 12 <| .step 13 <| .step 15 <| .step 14 <| .step 16 <| .step 17 <| .step 18 <| .nil) hmix; decide +kernel) | apply ep_nil | apply ep_alt | (apply ep_step; exact rfl)
        | (apply es_callA (hs := (ask_AllM W _ p A1 c1 l' mem2 mem3 (by omega))); (iterate 7 exact rfl); (rintro _ _ ⟨AO, cO, rfl, rfl, hfO⟩; refine ⟨[_], rfl, ?_⟩))
        | (apply es_callQ (hs := (ref18_SameM W _ _ _ _ _ l' hfO mem0 mem2 (by omega))); (iterate 7 exact rfl))
        | (apply es_callQ (hs := ((hLn A1 c1).mono (memPair mem3 mem4))); (iterate 7 exact rfl))
        | (apply es_callQ (hs := ((hLr A2 c2).mono (memPair mem1 mem2))); (iterate 7 exact rfl))
        | ((first | (apply es_load; (iterate 5 exact rfl)) | (apply es_loadL; (iterate 5 exact rfl); first | exact fun _ h => h | (first | exact keep1 mem0 | exact keep1 mem1 | exact keep1 mem2 | exact keep1 mem3 | exact keep1 mem4 | exact keep1 mem5))); first | exact ld_blk hT rfl rfl mem0 rfl rfl | exact ld_all hT rfl rfl mem0 rfl)
        | ((first | (apply es_load; (iterate 5 exact rfl)) | (apply es_loadL; (iterate 5 exact rfl); first | exact fun _ h => h | (first | exact keep1 mem0 | exact keep1 mem1 | exact keep1 mem2 | exact keep1 mem3 | exact keep1 mem4 | exact keep1 mem5))); first | exact ld_blk hT rfl rfl mem1 rfl rfl | exact ld_all hT rfl rfl mem1 rfl)
        | ((first | (apply es_load; (iterate 5 exact rfl)) | (apply es_loadL; (iterate 5 exact rfl); first | exact fun _ h => h | (first | exact keep1 mem0 | exact keep1 mem1 | exact keep1 mem2 | exact keep1 mem3 | exact keep1 mem4 | exact keep1 mem5))); first | exact ld_blk hT rfl rfl mem2 rfl rfl | exact ld_all hT rfl rfl mem2 rfl)
        | ((first | (apply es_load; (iterate 5 exact rfl)) | (apply es_loadL; (iterate 5 exact rfl); first | exact fun _ h => h | (first | exact keep1 mem0 | exact keep1 mem1 | exact keep1 mem2 | exact keep1 mem3 | exact keep1 mem4 | exact keep1 mem5))); first | exact ld_blk hT rfl rfl mem0 rfl rfl | exact ld_all hT rfl rfl mem0 rfl)
        | ((first | (apply es_load; (iterate 5 exact rfl)) | (apply es_loadL; (iterate 5 exact rfl); first | exact fun _ h => h | (first | exact keep1 mem0 | exact keep1 mem1 | exact keep1 mem2 | exact keep1 mem3 | exact keep1 mem4 | exact keep1 mem5))); first | exact ld_blk hT rfl rfl (List.mem_cons_of_mem _ mem0) rfl rfl | exact ld_all hT rfl rfl (List.mem_cons_of_mem _ mem0) rfl)
        | ((first | (apply es_load; (iterate 5 exact rfl)) | (apply es_loadL; (iterate 5 exact rfl); first | exact fun _ h => h | (first | exact keep1 mem0 | exact keep1 mem1 | exact keep1 mem2 | exact keep1 mem3 | exact keep1 mem4 | exact keep1 mem5))); first | exact ld_blk hT rfl rfl (List.mem_cons_of_mem _ (List.mem_cons_of_mem _ mem0)) rfl rfl | exact ld_all hT rfl rfl (List.mem_cons_of_mem _ (List.mem_cons_of_mem _ mem0)) rfl)
        | ((first | (apply es_load; (iterate 5 exact rfl)) | (apply es_loadL; (iterate 5 exact rfl); first | exact fun _ h => h | (first | exact keep1 mem0 | exact keep1 mem1 | exact keep1 mem2 | exact keep1 mem3 | exact keep1 mem4 | exact keep1 mem5))); first | exact ld_blk hT rfl rfl (List.mem_cons_of_mem _ (List.mem_cons_of_mem _ (List.mem_cons_of_mem _ mem0))) rfl rfl | exact ld_all hT rfl rfl (List.mem_cons_of_mem _ (List.mem_cons_of_mem _ (List.mem_cons_of_mem _ mem0))) rfl)
        | ((first | (apply es_load; (iterate 5 exact rfl)) | (apply es_loadL; (iterate 5 exact rfl); first | exact fun _ h => h | (first | exact keep1 mem0 | exact keep1 mem1 | exact keep1 mem2 | exact keep1 mem3 | exact keep1 mem4 | exact keep1 mem5))); first | exact ld_blk hT rfl rfl (List.mem_cons_of_mem _ (List.mem_cons_of_mem _ (List.mem_cons_of_mem _ (List.mem_cons_of_mem _ mem0)))) rfl rfl | exact ld_all hT rfl rfl (List.mem_cons_of_mem _ (List.mem_cons_of_mem _ (List.mem_cons_of_mem _ (List.mem_cons_of_mem _ mem0)))) rfl)
        | ((first | (apply es_load; (iterate 5 exact rfl)) | (apply es_loadL; (iterate 5 exact rfl); first | exact fun _ h => h | (first | exact keep1 mem0 | exact keep1 mem1 | exact keep1 mem2 | exact keep1 mem3 | exact keep1 mem4 | exact keep1 mem5))); first | exact ld_blk hT rfl rfl mem1 rfl rfl | exact ld_all hT rfl rfl mem1 rfl)
        | ((first | (apply es_load; (iterate 5 exact rfl)) | (apply es_loadL; (iterate 5 exact rfl); first | exact fun _ h => h | (first | exact keep1 mem0 | exact keep1 mem1 | exact keep1 mem2 | exact keep1 mem3 | exact keep1 mem4 | exact keep1 mem5))); first | exact ld_blk hT rfl rfl (List.mem_cons_of_mem _ mem1) rfl rfl | exact ld_all hT rfl rfl (List.mem_cons_of_mem _ mem1) rfl)
        | ((first | (apply es_load; (iterate 5 exact rfl)) | (apply es_loadL; (iterate 5 exact rfl); first | exact fun _ h => h | (first | exact keep1 mem0 | exact keep1 mem1 | exact keep1 mem2 | exact keep1 mem3 | exact keep1 mem4 | exact keep1 mem5))); first | exact ld_blk hT rfl rfl (List.mem_cons_of_mem _ (List.mem_cons_of_mem _ mem1)) rfl rfl | exact ld_all hT rfl rfl (List.mem_cons_of_mem _ (List.mem_cons_of_mem _ mem1)) rfl)
        | ((first | (apply es_load; (iterate 5 exact rfl)) | (apply es_loadL; (iterate 5 exact rfl); first | exact fun _ h => h | (first | exact keep1 mem0 | exact keep1 mem1 | exact keep1 mem2 | exact keep1 mem3 | exact keep1 mem4 | exact keep1 mem5))); first | exact ld_blk hT rfl rfl (List.mem_cons_of_mem _ (List.mem_cons_of_mem _ (List.mem_cons_of_mem _ mem1))) rfl rfl | exact ld_all hT rfl rfl (List.mem_cons_of_mem _ (List.mem_cons_of_mem _ (List.mem_cons_of_mem _ mem1))) rfl)
        | ((first | (apply es_load; (iterate 5 exact rfl)) | (apply es_loadL; (iterate 5 exact rfl); first | exact fun _ h => h | (first | exact keep1 mem0 | exact keep1 mem1 | exact keep1 mem2 | exact keep1 mem3 | exact keep1 mem4 | exact keep1 mem5))); first | exact ld_blk hT rfl rfl (List.mem_cons_of_mem _ (List.mem_cons_of_mem _ (List.mem_cons_of_mem _ (List.mem_cons_of_mem _ mem1)))) rfl rfl | exact ld_all hT rfl rfl (List.mem_cons_of_mem _ (List.mem_cons_of_mem _ (List.mem_cons_of_mem _ (List.mem_cons_of_mem _ mem1)))) rfl)
        | ((first | (apply es_load; (iterate 5 exact rfl)) | (apply es_loadL; (iterate 5 exact rfl); first | exact fun _ h => h | (first | exact keep1 mem0 | exact keep1 mem1 | exact keep1 mem2 | exact keep1 mem3 | exact keep1 mem4 | exact keep1 mem5))); first | exact ld_blk hT rfl rfl mem2 rfl rfl | exact ld_all hT rfl rfl mem2 rfl)
        | ((first | (apply es_load; (iterate 5 exact rfl)) | (apply es_loadL; (iterate 5 exact rfl); first | exact fun _ h => h | (first | exact keep1 mem0 | exact keep1 mem1 | exact keep1 mem2 | exact keep1 mem3 | exact keep1 mem4 | exact keep1 mem5))); first | exact ld_blk hT rfl rfl (List.mem_cons_of_mem _ mem2) rfl rfl | exact ld_all hT rfl rfl (List.mem_cons_of_mem _ mem2) rfl)
        | ((first | (apply es_load; (iterate 5 exact rfl)) | (apply es_loadL; (iterate 5 exact rfl); first | exact fun _ h => h | (first | exact keep1 mem0 | exact keep1 mem1 | exact keep1 mem2 | exact keep1 mem3 | exact keep1 mem4 | exact keep1 mem5))); first | exact ld_blk hT rfl rfl (List.mem_cons_of_mem _ (List.mem_cons_of_mem _ mem2)) rfl rfl | exact ld_all hT rfl rfl (List.mem_cons_of_mem _ (List.mem_cons_of_mem _ mem2)) rfl)
        | ((first | (apply es_load; (iterate 5 exact rfl)) | (apply es_loadL; (iterate 5 exact rfl); first | exact fun _ h => h | (first | exact keep1 mem0 | exact keep1 mem1 | exact keep1 mem2 | exact keep1 mem3 | exact keep1 mem4 | exact keep1 mem5))); first | exact ld_blk hT rfl rfl (List.mem_cons_of_mem _ (List.mem_cons_of_mem _ (List.mem_cons_of_mem _ mem2))) rfl rfl | exact ld_all hT rfl rfl (List.mem_cons_of_mem _ (List.mem_cons_of_mem _ (List.mem_cons_of_mem _ mem2))) rfl)
        | ((first | (apply es_load; (iterate 5 exact rfl)) | (apply es_loadL; (iterate 5 exact rfl); first | exact fun _ h => h | (first | exact keep1 mem0 | exact keep1 mem1 | exact keep1 mem2 | exact keep1 mem3 | exact keep1 mem4 | exact keep1 mem5))); first | exact ld_blk hT rfl rfl (List.mem_cons_of_mem _ (List.mem_cons_of_mem _ (List.mem_cons_of_mem _ (List.mem_cons_of_mem _ mem2)))) rfl rfl | exact ld_all hT rfl rfl (List.mem_cons_of_mem _ (List.mem_cons_of_mem _ (List.mem_cons_of_mem _ (List.mem_cons_of_mem _ mem2)))) rfl)
        | (apply es_box; (iterate 5 exact rfl); intro _) | (apply es_alloc hT; (iterate 5 exact rfl); intro _)
        | (apply aw_condT; (iterate 2 exact rfl)) | (apply aw_condF; (iterate 2 exact rfl))
        | (apply es_case; exact rfl; all_goals intro hb; all_goals (try simp only [hb]); all_goals (first | replace hb := of_decide_eq_true hb | replace hb := of_decide_eq_false hb | replace hb := bne_t hb | replace hb := bne_f hb | skip); all_goals (try (exfalso; omega)))
        | (apply aw_cond; exact rfl; all_goals intro hb; all_goals (try simp only [hb]); all_goals (first | replace hb := of_decide_eq_true hb | replace hb := of_decide_eq_false hb | replace hb := bne_t hb | replace hb := bne_f hb | skip); all_goals (try (exfalso; omega))))
      all_goals first
        | exact loopq_end (k + 1, l', A1, c1, A2, c2) (by dsimp only; omega) ⟨by dsimp only; omega, hok.1, by dsimp only; omega⟩ ⟨rfl, rfl, rfl, rfl, trivial⟩ (by apply dt_cons; (first | exact sel0 | exact sel1 | exact selS sel1 | exact selS (selS sel1) | exact selS (selS (selS sel1)) | exact selS (selS (selS (selS sel1))) | exact selS (selS (selS (selS (selS sel1)))) | exact selS (selS (selS (selS (selS (selS sel1)))))); apply dt_cons; (first | exact sel0 | exact sel1 | exact selS sel1 | exact selS (selS sel1) | exact selS (selS (selS sel1)) | exact selS (selS (selS (selS sel1))) | exact selS (selS (selS (selS (selS sel1)))) | exact selS (selS (selS (selS (selS (selS sel1)))))); apply dt_cons; (first | exact sel0 | exact sel1 | exact selS sel1 | exact selS (selS sel1) | exact selS (selS (selS sel1)) | exact selS (selS (selS (selS sel1))) | exact selS (selS (selS (selS (selS sel1)))) | exact selS (selS (selS (selS (selS (selS sel1)))))); apply dt_cons; (first | exact sel0 | exact sel1 | exact selS sel1 | exact selS (selS sel1) | exact selS (selS (selS sel1)) | exact selS (selS (selS (selS sel1))) | exact selS (selS (selS (selS (selS sel1)))) | exact selS (selS (selS (selS (selS (selS sel1)))))); (repeat (first | exact dt_end | apply dt_skip)))
        | (exfalso; simp_all; done)
    have hg1 := ask_Get W p A1 c1 l x.ask.id (by omega) hup
    have hg2 := ref18_Get W q A2 c2 l x.ask.id (by omega) hup
    have hup' := hup
    cases hgx : getA x.ask.id l with
    | none =>
      rw [hgx] at hg1 hg2
      unfold gotA at hg1 hg2
      have hLn := fun A c => ask_Many W p A c l (by omega)
      have hLr := fun A c => ref18_Many W q A c l (by omega)
      generalize manyA l = nL at hLn hLr
      repeat' (first
        | (apply es_same hT; (iterate 5 exact rfl))
        | (apply es_diff hT; (iterate 5 exact rfl))
        | apply aw_seq | apply aw_region | apply aw_ret | apply aw_skip | apply aw_exit | apply aw_block | apply es_nil
        | (apply es_pure hT; (iterate 4 exact rfl)) | (apply es_skip; (iterate 3 exact rfl)) | (apply es_skip0; (iterate 2 exact rfl))
        | (apply es_i64 hT; (iterate 4 exact rfl); (iterate 2 omega))
        | (apply es_idx hT; (iterate 8 exact rfl); (iterate 2 omega); exact hA)
        | ((first | (apply es_load; (iterate 5 exact rfl)) | (apply es_loadL; (iterate 5 exact rfl); first | exact fun _ h => h)); first | exact ld_fld hT rfl rfl (hr0.mono (by simp)) Act18.enc_len (adr_add _ _ _) hx2 (f := 0) (by decide) rfl | exact ld_sub hT rfl rfl (hr0.mono (by simp)) Act18.enc_len (adr_add _ _ _) hx2 (f := 1) (vs := x.ask.enc) (Nat.le_of_ble_eq_true rfl) rfl rfl)
        | (apply es_alloc hT; (iterate 5 exact rfl); intro g6)
        | (apply es_store hT; (iterate 6 exact rfl); exact sel0; (iterate 3 exact rfl); exact Nat.le_of_ble_eq_true rfl)
        | (apply es_callQ (hs := (hg1.mono (memPair mem3 mem4))); (iterate 7 exact rfl))
        | (apply es_callQ (hs := (hg2.mono (memPair mem2 mem3))); (iterate 7 exact rfl))
        | (apply es_eqS hT; (iterate 5 exact rfl); exact rfl; exact sOKAsk)
        | (apply aw_tree [] [47] (.step 0 <| .step 1 <| .step 2 <| .step 3 <| .step 5 <| .step 6 <| .step 7 <| .step 8 <| .step 4 <| .step 9 <| .step 10 <| .step 11 <| .step 12 <| .step 13 <| .step 15 <| .step 14 <| .step 16 <| .step 17 <| .step 18 <| .nil) hmix; decide +kernel) | apply ep_nil | apply ep_alt | (apply ep_step; exact rfl)
        | (apply es_callA (hs := (ask_AllM W _ p A1 c1 l mem5 mem6 (by omega))); (iterate 7 exact rfl); (rintro _ _ ⟨AO, cO, rfl, rfl, hfO⟩; refine ⟨[_], rfl, ?_⟩))
        | (apply es_callQ (hs := (ref18_SameM W _ _ _ _ _ l hfO mem0 mem5 (by omega))); (iterate 7 exact rfl))
        | (apply es_callQ (hs := ((hLn A1 c1).mono (memPair mem6 mem7))); (iterate 7 exact rfl))
        | (apply es_callQ (hs := ((hLr A2 c2).mono (memPair mem4 mem5))); (iterate 7 exact rfl))
        | ((first | (apply es_load; (iterate 5 exact rfl)) | (apply es_loadL; (iterate 5 exact rfl); first | exact fun _ h => h)); first | exact ld_blk hT rfl rfl mem0 rfl rfl | exact ld_all hT rfl rfl mem0 rfl)
        | ((first | (apply es_load; (iterate 5 exact rfl)) | (apply es_loadL; (iterate 5 exact rfl); first | exact fun _ h => h)); first | exact ld_blk hT rfl rfl mem1 rfl rfl | exact ld_all hT rfl rfl mem1 rfl)
        | ((first | (apply es_load; (iterate 5 exact rfl)) | (apply es_loadL; (iterate 5 exact rfl); first | exact fun _ h => h)); first | exact ld_blk hT rfl rfl mem2 rfl rfl | exact ld_all hT rfl rfl mem2 rfl)
        | ((first | (apply es_load; (iterate 5 exact rfl)) | (apply es_loadL; (iterate 5 exact rfl); first | exact fun _ h => h)); first | exact ld_blk hT rfl rfl mem0 rfl rfl | exact ld_all hT rfl rfl mem0 rfl)
        | ((first | (apply es_load; (iterate 5 exact rfl)) | (apply es_loadL; (iterate 5 exact rfl); first | exact fun _ h => h)); first | exact ld_blk hT rfl rfl (List.mem_cons_of_mem _ mem0) rfl rfl | exact ld_all hT rfl rfl (List.mem_cons_of_mem _ mem0) rfl)
        | ((first | (apply es_load; (iterate 5 exact rfl)) | (apply es_loadL; (iterate 5 exact rfl); first | exact fun _ h => h)); first | exact ld_blk hT rfl rfl (List.mem_cons_of_mem _ (List.mem_cons_of_mem _ mem0)) rfl rfl | exact ld_all hT rfl rfl (List.mem_cons_of_mem _ (List.mem_cons_of_mem _ mem0)) rfl)
        | ((first | (apply es_load; (iterate 5 exact rfl)) | (apply es_loadL; (iterate 5 exact rfl); first | exact fun _ h => h)); first | exact ld_blk hT rfl rfl (List.mem_cons_of_mem _ (List.mem_cons_of_mem _ (List.mem_cons_of_mem _ mem0))) rfl rfl | exact ld_all hT rfl rfl (List.mem_cons_of_mem _ (List.mem_cons_of_mem _ (List.mem_cons_of_mem _ mem0))) rfl)
        | ((first | (apply es_load; (iterate 5 exact rfl)) | (apply es_loadL; (iterate 5 exact rfl); first | exact fun _ h => h)); first | exact ld_blk hT rfl rfl (List.mem_cons_of_mem _ (List.mem_cons_of_mem _ (List.mem_cons_of_mem _ (List.mem_cons_of_mem _ mem0)))) rfl rfl | exact ld_all hT rfl rfl (List.mem_cons_of_mem _ (List.mem_cons_of_mem _ (List.mem_cons_of_mem _ (List.mem_cons_of_mem _ mem0)))) rfl)
        | ((first | (apply es_load; (iterate 5 exact rfl)) | (apply es_loadL; (iterate 5 exact rfl); first | exact fun _ h => h)); first | exact ld_blk hT rfl rfl mem1 rfl rfl | exact ld_all hT rfl rfl mem1 rfl)
        | ((first | (apply es_load; (iterate 5 exact rfl)) | (apply es_loadL; (iterate 5 exact rfl); first | exact fun _ h => h)); first | exact ld_blk hT rfl rfl (List.mem_cons_of_mem _ mem1) rfl rfl | exact ld_all hT rfl rfl (List.mem_cons_of_mem _ mem1) rfl)
        | ((first | (apply es_load; (iterate 5 exact rfl)) | (apply es_loadL; (iterate 5 exact rfl); first | exact fun _ h => h)); first | exact ld_blk hT rfl rfl (List.mem_cons_of_mem _ (List.mem_cons_of_mem _ mem1)) rfl rfl | exact ld_all hT rfl rfl (List.mem_cons_of_mem _ (List.mem_cons_of_mem _ mem1)) rfl)
        | ((first | (apply es_load; (iterate 5 exact rfl)) | (apply es_loadL; (iterate 5 exact rfl); first | exact fun _ h => h)); first | exact ld_blk hT rfl rfl (List.mem_cons_of_mem _ (List.mem_cons_of_mem _ (List.mem_cons_of_mem _ mem1))) rfl rfl | exact ld_all hT rfl rfl (List.mem_cons_of_mem _ (List.mem_cons_of_mem _ (List.mem_cons_of_mem _ mem1))) rfl)
        | ((first | (apply es_load; (iterate 5 exact rfl)) | (apply es_loadL; (iterate 5 exact rfl); first | exact fun _ h => h)); first | exact ld_blk hT rfl rfl (List.mem_cons_of_mem _ (List.mem_cons_of_mem _ (List.mem_cons_of_mem _ (List.mem_cons_of_mem _ mem1)))) rfl rfl | exact ld_all hT rfl rfl (List.mem_cons_of_mem _ (List.mem_cons_of_mem _ (List.mem_cons_of_mem _ (List.mem_cons_of_mem _ mem1)))) rfl)
        | ((first | (apply es_load; (iterate 5 exact rfl)) | (apply es_loadL; (iterate 5 exact rfl); first | exact fun _ h => h)); first | exact ld_blk hT rfl rfl mem2 rfl rfl | exact ld_all hT rfl rfl mem2 rfl)
        | ((first | (apply es_load; (iterate 5 exact rfl)) | (apply es_loadL; (iterate 5 exact rfl); first | exact fun _ h => h)); first | exact ld_blk hT rfl rfl (List.mem_cons_of_mem _ mem2) rfl rfl | exact ld_all hT rfl rfl (List.mem_cons_of_mem _ mem2) rfl)
        | ((first | (apply es_load; (iterate 5 exact rfl)) | (apply es_loadL; (iterate 5 exact rfl); first | exact fun _ h => h)); first | exact ld_blk hT rfl rfl (List.mem_cons_of_mem _ (List.mem_cons_of_mem _ mem2)) rfl rfl | exact ld_all hT rfl rfl (List.mem_cons_of_mem _ (List.mem_cons_of_mem _ mem2)) rfl)
        | ((first | (apply es_load; (iterate 5 exact rfl)) | (apply es_loadL; (iterate 5 exact rfl); first | exact fun _ h => h)); first | exact ld_blk hT rfl rfl (List.mem_cons_of_mem _ (List.mem_cons_of_mem _ (List.mem_cons_of_mem _ mem2))) rfl rfl | exact ld_all hT rfl rfl (List.mem_cons_of_mem _ (List.mem_cons_of_mem _ (List.mem_cons_of_mem _ mem2))) rfl)
        | ((first | (apply es_load; (iterate 5 exact rfl)) | (apply es_loadL; (iterate 5 exact rfl); first | exact fun _ h => h)); first | exact ld_blk hT rfl rfl (List.mem_cons_of_mem _ (List.mem_cons_of_mem _ (List.mem_cons_of_mem _ (List.mem_cons_of_mem _ mem2)))) rfl rfl | exact ld_all hT rfl rfl (List.mem_cons_of_mem _ (List.mem_cons_of_mem _ (List.mem_cons_of_mem _ (List.mem_cons_of_mem _ mem2)))) rfl)
        | (apply es_box; (iterate 5 exact rfl); intro _) | (apply es_alloc hT; (iterate 5 exact rfl); intro _)
        | (apply aw_condT; (iterate 2 exact rfl)) | (apply aw_condF; (iterate 2 exact rfl))
        | (apply es_case; exact rfl; all_goals intro hb; all_goals (try simp only [hb]); all_goals (first | replace hb := of_decide_eq_true hb | replace hb := of_decide_eq_false hb | replace hb := bne_t hb | replace hb := bne_f hb | skip); all_goals (try (exfalso; omega)))
        | (apply aw_cond; exact rfl; all_goals intro hb; all_goals (try simp only [hb]); all_goals (first | replace hb := of_decide_eq_true hb | replace hb := of_decide_eq_false hb | replace hb := bne_t hb | replace hb := bne_f hb | skip); all_goals (try (exfalso; omega))))
      all_goals first
        | exact loopq_end (k + 1, l, A1, c1, A2, c2) (by dsimp only; omega) ⟨by dsimp only; omega, hup', by dsimp only; omega⟩ ⟨rfl, rfl, rfl, rfl, trivial⟩ (by apply dt_cons; (first | exact sel0 | exact sel1 | exact selS sel1 | exact selS (selS sel1) | exact selS (selS (selS sel1)) | exact selS (selS (selS (selS sel1))) | exact selS (selS (selS (selS (selS sel1)))) | exact selS (selS (selS (selS (selS (selS sel1)))))); apply dt_cons; (first | exact sel0 | exact sel1 | exact selS sel1 | exact selS (selS sel1) | exact selS (selS (selS sel1)) | exact selS (selS (selS (selS sel1))) | exact selS (selS (selS (selS (selS sel1)))) | exact selS (selS (selS (selS (selS (selS sel1)))))); apply dt_cons; (first | exact sel0 | exact sel1 | exact selS sel1 | exact selS (selS sel1) | exact selS (selS (selS sel1)) | exact selS (selS (selS (selS sel1))) | exact selS (selS (selS (selS (selS sel1)))) | exact selS (selS (selS (selS (selS (selS sel1)))))); apply dt_cons; (first | exact sel0 | exact sel1 | exact selS sel1 | exact selS (selS sel1) | exact selS (selS (selS sel1)) | exact selS (selS (selS (selS sel1))) | exact selS (selS (selS (selS (selS sel1)))) | exact selS (selS (selS (selS (selS (selS sel1)))))); (repeat (first | exact dt_end | apply dt_skip)))
        | (exfalso; simp_all; done)
    | some y =>
      rw [hgx] at hg1 hg2
      unfold gotA at hg1 hg2
      have hLn := fun A c => ask_Many W p A c l (by omega)
      have hLr := fun A c => ref18_Many W q A c l (by omega)
      generalize manyA l = nL at hLn hLr
      repeat' (first
        | (apply es_same hT; (iterate 5 exact rfl))
        | (apply es_diff hT; (iterate 5 exact rfl))
        | apply aw_seq | apply aw_region | apply aw_ret | apply aw_skip | apply aw_exit | apply aw_block | apply es_nil
        | (apply es_pure hT; (iterate 4 exact rfl)) | (apply es_skip; (iterate 3 exact rfl)) | (apply es_skip0; (iterate 2 exact rfl))
        | (apply es_i64 hT; (iterate 4 exact rfl); (iterate 2 omega))
        | (apply es_idx hT; (iterate 8 exact rfl); (iterate 2 omega); exact hA)
        | ((first | (apply es_load; (iterate 5 exact rfl)) | (apply es_loadL; (iterate 5 exact rfl); first | exact fun _ h => h)); first | exact ld_fld hT rfl rfl (hr0.mono (by simp)) Act18.enc_len (adr_add _ _ _) hx2 (f := 0) (by decide) rfl | exact ld_sub hT rfl rfl (hr0.mono (by simp)) Act18.enc_len (adr_add _ _ _) hx2 (f := 1) (vs := x.ask.enc) (Nat.le_of_ble_eq_true rfl) rfl rfl)
        | (apply es_alloc hT; (iterate 5 exact rfl); intro g6)
        | (apply es_store hT; (iterate 6 exact rfl); exact sel0; (iterate 3 exact rfl); exact Nat.le_of_ble_eq_true rfl)
        | (apply es_callQ (hs := (hg1.mono (memPair mem3 mem4))); (iterate 7 exact rfl))
        | (apply es_callQ (hs := (hg2.mono (memPair mem2 mem3))); (iterate 7 exact rfl))
        | (apply es_eqS hT; (iterate 5 exact rfl); exact rfl; exact sOKAsk)
        | (apply aw_tree [] [47] (.step 0 <| .step 1 <| .step 2 <| .step 3 <| .step 5 <| .step 6 <| .step 7 <| .step 8 <| .step 4 <| .step 9 <| .step 10 <| .step 11 <| .step 12 <| .step 13 <| .step 15 <| .step 14 <| .step 16 <| .step 17 <| .step 18 <| .nil) hmix; decide +kernel) | apply ep_nil | apply ep_alt | (apply ep_step; exact rfl)
        | (apply es_callA (hs := (ask_AllM W _ p A1 c1 l mem5 mem6 (by omega))); (iterate 7 exact rfl); (rintro _ _ ⟨AO, cO, rfl, rfl, hfO⟩; refine ⟨[_], rfl, ?_⟩))
        | (apply es_callQ (hs := (ref18_SameM W _ _ _ _ _ l hfO mem0 mem5 (by omega))); (iterate 7 exact rfl))
        | (apply es_callQ (hs := ((hLn A1 c1).mono (memPair mem6 mem7))); (iterate 7 exact rfl))
        | (apply es_callQ (hs := ((hLr A2 c2).mono (memPair mem4 mem5))); (iterate 7 exact rfl))
        | ((first | (apply es_load; (iterate 5 exact rfl)) | (apply es_loadL; (iterate 5 exact rfl); first | exact fun _ h => h)); first | exact ld_blk hT rfl rfl mem0 rfl rfl | exact ld_all hT rfl rfl mem0 rfl)
        | ((first | (apply es_load; (iterate 5 exact rfl)) | (apply es_loadL; (iterate 5 exact rfl); first | exact fun _ h => h)); first | exact ld_blk hT rfl rfl mem1 rfl rfl | exact ld_all hT rfl rfl mem1 rfl)
        | ((first | (apply es_load; (iterate 5 exact rfl)) | (apply es_loadL; (iterate 5 exact rfl); first | exact fun _ h => h)); first | exact ld_blk hT rfl rfl mem2 rfl rfl | exact ld_all hT rfl rfl mem2 rfl)
        | ((first | (apply es_load; (iterate 5 exact rfl)) | (apply es_loadL; (iterate 5 exact rfl); first | exact fun _ h => h)); first | exact ld_blk hT rfl rfl mem0 rfl rfl | exact ld_all hT rfl rfl mem0 rfl)
        | ((first | (apply es_load; (iterate 5 exact rfl)) | (apply es_loadL; (iterate 5 exact rfl); first | exact fun _ h => h)); first | exact ld_blk hT rfl rfl (List.mem_cons_of_mem _ mem0) rfl rfl | exact ld_all hT rfl rfl (List.mem_cons_of_mem _ mem0) rfl)
        | ((first | (apply es_load; (iterate 5 exact rfl)) | (apply es_loadL; (iterate 5 exact rfl); first | exact fun _ h => h)); first | exact ld_blk hT rfl rfl (List.mem_cons_of_mem _ (List.mem_cons_of_mem _ mem0)) rfl rfl | exact ld_all hT rfl rfl (List.mem_cons_of_mem _ (List.mem_cons_of_mem _ mem0)) rfl)
        | ((first | (apply es_load; (iterate 5 exact rfl)) | (apply es_loadL; (iterate 5 exact rfl); first | exact fun _ h => h)); first | exact ld_blk hT rfl rfl (List.mem_cons_of_mem _ (List.mem_cons_of_mem _ (List.mem_cons_of_mem _ mem0))) rfl rfl | exact ld_all hT rfl rfl (List.mem_cons_of_mem _ (List.mem_cons_of_mem _ (List.mem_cons_of_mem _ mem0))) rfl)
        | ((first | (apply es_load; (iterate 5 exact rfl)) | (apply es_loadL; (iterate 5 exact rfl); first | exact fun _ h => h)); first | exact ld_blk hT rfl rfl (List.mem_cons_of_mem _ (List.mem_cons_of_mem _ (List.mem_cons_of_mem _ (List.mem_cons_of_mem _ mem0)))) rfl rfl | exact ld_all hT rfl rfl (List.mem_cons_of_mem _ (List.mem_cons_of_mem _ (List.mem_cons_of_mem _ (List.mem_cons_of_mem _ mem0)))) rfl)
        | ((first | (apply es_load; (iterate 5 exact rfl)) | (apply es_loadL; (iterate 5 exact rfl); first | exact fun _ h => h)); first | exact ld_blk hT rfl rfl mem1 rfl rfl | exact ld_all hT rfl rfl mem1 rfl)
        | ((first | (apply es_load; (iterate 5 exact rfl)) | (apply es_loadL; (iterate 5 exact rfl); first | exact fun _ h => h)); first | exact ld_blk hT rfl rfl (List.mem_cons_of_mem _ mem1) rfl rfl | exact ld_all hT rfl rfl (List.mem_cons_of_mem _ mem1) rfl)
        | ((first | (apply es_load; (iterate 5 exact rfl)) | (apply es_loadL; (iterate 5 exact rfl); first | exact fun _ h => h)); first | exact ld_blk hT rfl rfl (List.mem_cons_of_mem _ (List.mem_cons_of_mem _ mem1)) rfl rfl | exact ld_all hT rfl rfl (List.mem_cons_of_mem _ (List.mem_cons_of_mem _ mem1)) rfl)
        | ((first | (apply es_load; (iterate 5 exact rfl)) | (apply es_loadL; (iterate 5 exact rfl); first | exact fun _ h => h)); first | exact ld_blk hT rfl rfl (List.mem_cons_of_mem _ (List.mem_cons_of_mem _ (List.mem_cons_of_mem _ mem1))) rfl rfl | exact ld_all hT rfl rfl (List.mem_cons_of_mem _ (List.mem_cons_of_mem _ (List.mem_cons_of_mem _ mem1))) rfl)
        | ((first | (apply es_load; (iterate 5 exact rfl)) | (apply es_loadL; (iterate 5 exact rfl); first | exact fun _ h => h)); first | exact ld_blk hT rfl rfl (List.mem_cons_of_mem _ (List.mem_cons_of_mem _ (List.mem_cons_of_mem _ (List.mem_cons_of_mem _ mem1)))) rfl rfl | exact ld_all hT rfl rfl (List.mem_cons_of_mem _ (List.mem_cons_of_mem _ (List.mem_cons_of_mem _ (List.mem_cons_of_mem _ mem1)))) rfl)
        | ((first | (apply es_load; (iterate 5 exact rfl)) | (apply es_loadL; (iterate 5 exact rfl); first | exact fun _ h => h)); first | exact ld_blk hT rfl rfl mem2 rfl rfl | exact ld_all hT rfl rfl mem2 rfl)
        | ((first | (apply es_load; (iterate 5 exact rfl)) | (apply es_loadL; (iterate 5 exact rfl); first | exact fun _ h => h)); first | exact ld_blk hT rfl rfl (List.mem_cons_of_mem _ mem2) rfl rfl | exact ld_all hT rfl rfl (List.mem_cons_of_mem _ mem2) rfl)
        | ((first | (apply es_load; (iterate 5 exact rfl)) | (apply es_loadL; (iterate 5 exact rfl); first | exact fun _ h => h)); first | exact ld_blk hT rfl rfl (List.mem_cons_of_mem _ (List.mem_cons_of_mem _ mem2)) rfl rfl | exact ld_all hT rfl rfl (List.mem_cons_of_mem _ (List.mem_cons_of_mem _ mem2)) rfl)
        | ((first | (apply es_load; (iterate 5 exact rfl)) | (apply es_loadL; (iterate 5 exact rfl); first | exact fun _ h => h)); first | exact ld_blk hT rfl rfl (List.mem_cons_of_mem _ (List.mem_cons_of_mem _ (List.mem_cons_of_mem _ mem2))) rfl rfl | exact ld_all hT rfl rfl (List.mem_cons_of_mem _ (List.mem_cons_of_mem _ (List.mem_cons_of_mem _ mem2))) rfl)
        | ((first | (apply es_load; (iterate 5 exact rfl)) | (apply es_loadL; (iterate 5 exact rfl); first | exact fun _ h => h)); first | exact ld_blk hT rfl rfl (List.mem_cons_of_mem _ (List.mem_cons_of_mem _ (List.mem_cons_of_mem _ (List.mem_cons_of_mem _ mem2)))) rfl rfl | exact ld_all hT rfl rfl (List.mem_cons_of_mem _ (List.mem_cons_of_mem _ (List.mem_cons_of_mem _ (List.mem_cons_of_mem _ mem2)))) rfl)
        | (apply es_box; (iterate 5 exact rfl); intro _) | (apply es_alloc hT; (iterate 5 exact rfl); intro _)
        | (apply aw_condT; (iterate 2 exact rfl)) | (apply aw_condF; (iterate 2 exact rfl))
        | (apply es_case; exact rfl; all_goals intro hb; all_goals (try simp only [hb]); all_goals (first | replace hb := of_decide_eq_true hb | replace hb := of_decide_eq_false hb | replace hb := bne_t hb | replace hb := bne_f hb | skip); all_goals (try (exfalso; omega)))
        | (apply aw_cond; exact rfl; all_goals intro hb; all_goals (try simp only [hb]); all_goals (first | replace hb := of_decide_eq_true hb | replace hb := of_decide_eq_false hb | replace hb := bne_t hb | replace hb := bne_f hb | skip); all_goals (try (exfalso; omega))))
      all_goals first
        | exact loopq_end (k + 1, l, A1, c1, A2, c2) (by dsimp only; omega) ⟨by dsimp only; omega, hup', by dsimp only; omega⟩ ⟨rfl, rfl, rfl, rfl, trivial⟩ (by apply dt_cons; (first | exact sel0 | exact sel1 | exact selS sel1 | exact selS (selS sel1) | exact selS (selS (selS sel1)) | exact selS (selS (selS (selS sel1))) | exact selS (selS (selS (selS (selS sel1)))) | exact selS (selS (selS (selS (selS (selS sel1)))))); apply dt_cons; (first | exact sel0 | exact sel1 | exact selS sel1 | exact selS (selS sel1) | exact selS (selS (selS sel1)) | exact selS (selS (selS (selS sel1))) | exact selS (selS (selS (selS (selS sel1)))) | exact selS (selS (selS (selS (selS (selS sel1)))))); apply dt_cons; (first | exact sel0 | exact sel1 | exact selS sel1 | exact selS (selS sel1) | exact selS (selS (selS sel1)) | exact selS (selS (selS (selS sel1))) | exact selS (selS (selS (selS (selS sel1)))) | exact selS (selS (selS (selS (selS (selS sel1)))))); apply dt_cons; (first | exact sel0 | exact sel1 | exact selS sel1 | exact selS (selS sel1) | exact selS (selS (selS sel1)) | exact selS (selS (selS (selS sel1))) | exact selS (selS (selS (selS (selS sel1)))) | exact selS (selS (selS (selS (selS (selS sel1)))))); (repeat (first | exact dt_end | apply dt_skip)))
        | (exfalso; simp_all; done)
  · obtain rfl : k = ls.length := by omega
    have hd1 : decide ((ls.length : Int) < (ls.length : Int)) = false := by simp
    have hkn := ask_known W
    repeat' (first
      | apply aw_seq | apply aw_region | apply aw_ret | apply aw_skip | apply aw_exit | apply aw_block | apply es_nil
      | (apply es_pure hT; (iterate 4 exact rfl)) | (apply es_skip; (iterate 3 exact rfl)) | (apply es_skip0; (iterate 2 exact rfl))
      | (apply es_i64 hT; (iterate 4 exact rfl); (iterate 2 omega))
      | (apply aw_draw [] [] hmix; decide +kernel)
      | (apply es_callQ (hs := (hkn.mono (by simp))); (iterate 7 exact rfl))
      | (apply es_load; (iterate 5 exact rfl); first | exact ld_blk hT rfl rfl mem0 rfl rfl | exact ld_all hT rfl rfl mem0 rfl)
      | (apply es_load; (iterate 5 exact rfl); first | exact ld_blk hT rfl rfl mem1 rfl rfl | exact ld_all hT rfl rfl mem1 rfl)
      | (apply es_load; (iterate 5 exact rfl); first | exact ld_blk hT rfl rfl mem2 rfl rfl | exact ld_all hT rfl rfl mem2 rfl)
      | (apply es_box; (iterate 5 exact rfl); intro _) | (apply es_alloc hT; (iterate 5 exact rfl); intro _)
      | (apply aw_condT; (iterate 2 exact rfl)) | (apply aw_condF; (iterate 2 exact rfl))
      | (apply es_case; exact rfl; all_goals intro hb; all_goals (try simp only [hb]); all_goals (first | replace hb := of_decide_eq_true hb | replace hb := of_decide_eq_false hb | replace hb := bne_t hb | replace hb := bne_f hb | skip); all_goals (try (exfalso; omega)))
      | (apply aw_cond; exact rfl; all_goals intro hb; all_goals (try simp only [hb]); all_goals (first | replace hb := of_decide_eq_true hb | replace hb := of_decide_eq_false hb | replace hb := bne_t hb | replace hb := bne_f hb | skip); all_goals (try (exfalso; omega))))
    apply ret1; exact rfl; exact rfl
end Go.Proofs.Ytmoglacdddinjaa
