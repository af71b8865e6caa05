/- What the statement BookPlays answers: the program's book and the document's go together. Conditions stand in each statement. -/
import Derived.Test.YtiefkpfamkkapaaBookE
import Derived.Test.YtiefkpfamkkapaaSlI
import Derived.Test.YtiefkpfamkkapaaRef14d
set_option linter.unusedSimpArgs false
set_option linter.unusedVariables false
namespace Go.Proofs.Ytiefkpfamkkapaa
open Go Go.Sl
attribute [local irreducible] AW ES EP Ld RetQ
set_option maxRecDepth 100000

structure Act14 where
  kind : Int
  order : Order
def Act14.enc (a : Act14) : List Value := .int .i64 a.kind :: a.order.enc
theorem Act14.enc_len (a : Act14) : a.enc.length = 7 := rfl
theorem decAct14 (vs : List Value) (h : FitsL [.int .i64, .int .i64, .int .i64, .int .i64, .int .i64, .int .i64, .int .i64] vs) : ∃ x : Act14, Act14.enc x = vs ∧ True := by
  have hlen : vs.length = 7 := h.len
  match vs, hlen, h with
  | [u0, u1, u2, u3, u4, u5, u6], _, h =>
    obtain ⟨a0, h0, _⟩ := h.1
    obtain ⟨a1, h1, _⟩ := h.2.1
    obtain ⟨a2, h2, _⟩ := h.2.2.1
    obtain ⟨a3, h3, _⟩ := h.2.2.2.1
    obtain ⟨a4, h4, _⟩ := h.2.2.2.2.1
    obtain ⟨a5, h5, _⟩ := h.2.2.2.2.2.1
    obtain ⟨a6, h6, _⟩ := h.2.2.2.2.2.2.1
    exact ⟨⟨a0, ⟨a1, a2, a3, a4, a5, a6⟩⟩, by rw [h0, h1, h2, h3, h4, h5, h6]; rfl, trivial⟩
theorem gotO_is (m : Option Order) : ∃ (y : Order) (b : Bool), gotO m = .tuple #[.agg y.enc.toArray, .bool b] := by
  cases m with
  | none => exact ⟨zeroO, false, rfl⟩
  | some x => exact ⟨x, true, rfl⟩
theorem dropO_sub (id : Int) (l : List Order) : (dropO id l).Sublist l := by
  unfold dropO
  split
  · exact List.Sublist.refl _
  · generalize (idxOf (hasO id) l).toNat = i
    have h : l.take i ++ l.drop (i + 1) = l.eraseIdx i := (List.eraseIdx_eq_take_drop_succ l i).symm
    rw [h]; exact List.eraseIdx_sublist l i
theorem BookB.sub {l m : List Order} (h : BookB l) (hs : m.Sublist l) : BookB m :=
  ⟨List.Pairwise.sublist hs h.seq, h.id.sublist hs, fun o ho => h.ok o (hs.subset ho), Nat.le_trans hs.length_le h.len⟩
theorem BookB.lessAny {l : List Order} (h : BookB l) (id left : Int) : BookB (lessO id left l) := by
  by_cases hE : lessE id left l = 0
  · exact h.less hE
  · rw [lessO_no hE]; exact h
theorem levels_len (o : List Order) : (levelsO o).length ≤ o.length := by
  have : ∀ (o : List Order) (v : List Lvl), (o.foldl addLv v).length ≤ v.length + o.length := by
    intro o
    induction o with
    | nil => intro v; simp
    | cons a o ih => intro v; rw [List.foldl_cons]; have := ih (addLv v a); have := addLv_len v a; simp; omega
  have := this o []
  unfold levelsO
  simpa using this

/-- two rows that the call owns, of the same orders -/
theorem same_two (W : World) (h : List Chunk) (A1 A2 : Option Addr) (c1 c2 : Nat) (m : List Order) (h1 : OwnF A1 m.length c1 6 (m.flatMap Order.enc)) (h2 : OwnF A2 m.length c2 6 (m.flatMap Order.enc))
    (m1 : Chunk.own A1 m.length c1 29 6 (m.flatMap Order.enc) ∈ h) (m2 : Chunk.own A2 m.length c2 29 6 (m.flatMap Order.enc) ∈ h) (hb : m.length ≤ 1000000) :
    QSpec Try.prog W 32 [.slice A1 m.length c1, .slice A2 m.length c2] h (.bool true) :=
  (ref14_SameO W h A1 A2 c1 c2 m m (h1.reads m1) (h2.reads m2) hb).cast (by simp)
theorem shows_two (W : World) (h : List Chunk) (A1 A2 : Option Addr) (c1 c2 : Nat) (m : List Lvl) (h1 : OwnF A1 m.length c1 2 (m.flatMap Lvl.enc)) (h2 : OwnF A2 m.length c2 2 (m.flatMap Lvl.enc))
    (m1 : Chunk.own A1 m.length c1 35 2 (m.flatMap Lvl.enc) ∈ h) (m2 : Chunk.own A2 m.length c2 35 2 (m.flatMap Lvl.enc) ∈ h) (hb : m.length ≤ 1000000) :
    QSpec Try.prog W 42 [.slice A1 m.length c1, .slice A2 m.length c2] h (.bool true) :=
  (ref14_Shows W h A1 A2 c1 c2 m m (h1.reads m1) (h2.reads m2) hb).cast (by simp)


set_option maxHeartbeats 4000000 in
theorem book_Plays (W : World) (A0 : Option Addr) (c0 : Nat) (ls : List Act14) (hr0 : Reads W [] A0 ls.length 7 (ls.flatMap Act14.enc)) :
    FSpec Try.prog W 7 [.slice A0 ls.length c0] [] (fun v _ => v = .bool true) := by
  refine spec_body Try.func7 rfl rfl Try.results7 Try.ntmps7 rfl rfl ?_
  refine aw_reads hr0 (by rfl) (fun hA0 => ?_)
  by_cases h1 : ls.length > 120
  · repeat' (first
      | apply aw_seq | apply aw_region | apply aw_ret | apply aw_skip | apply aw_exit | apply aw_block | apply es_nil
      | (apply es_pure hT; (iterate 4 exact rfl)) | (apply es_skip; (iterate 3 exact rfl)) | (apply es_skip0; (iterate 2 exact rfl))
      | (apply es_i64 hT; (iterate 4 exact rfl); (iterate 2 omega))
      | (apply aw_draw [] [] hmix; decide +kernel)
      | (apply es_load; (iterate 5 exact rfl); first | (apply ld_blk hT; exact rfl; exact rfl; (repeat (first | exact List.mem_cons_self | apply List.mem_cons_of_mem)); exact rfl; exact rfl) | (apply ld_all hT; exact rfl; exact rfl; (repeat (first | exact List.mem_cons_self | apply List.mem_cons_of_mem)); exact rfl))
      | (apply es_box; (iterate 5 exact rfl); intro _) | (apply es_alloc hT; (iterate 5 exact rfl); intro _)
      | (apply aw_condT; (iterate 2 exact rfl)) | (apply aw_condF; (iterate 2 exact rfl))
      | (apply es_case; exact rfl; all_goals intro hb; all_goals (try simp only [hb]); all_goals (first | replace hb := of_decide_eq_true hb | replace hb := of_decide_eq_false hb | replace hb := bne_t hb | replace hb := bne_f hb | skip); all_goals (try (exfalso; omega)))
      | (apply aw_cond; exact rfl; all_goals intro hb; all_goals (try simp only [hb]); all_goals (first | replace hb := of_decide_eq_true hb | replace hb := of_decide_eq_false hb | replace hb := bne_t hb | replace hb := bne_f hb | skip); all_goals (try (exfalso; omega))))
    apply ret1; exact rfl; exact rfl
  repeat' (first
    | apply aw_seq | apply aw_region | apply aw_ret | apply aw_skip | apply aw_exit | apply aw_block | apply es_nil
    | (apply es_pure hT; (iterate 4 exact rfl)) | (apply es_skip; (iterate 3 exact rfl)) | (apply es_skip0; (iterate 2 exact rfl))
    | (apply es_i64 hT; (iterate 4 exact rfl); (iterate 2 omega))
    | (apply aw_draw [] [] hmix; decide +kernel)
    | (apply es_call (hs := (book_New W _)); (iterate 7 exact rfl); rintro _ _ ⟨p, A, c, rfl, rfl⟩)
    | (apply es_build hT; (iterate 4 exact rfl))
    | (apply es_box; (iterate 5 exact rfl); intro q)
    | (apply es_load; (iterate 5 exact rfl); first | (apply ld_blk hT; exact rfl; exact rfl; (repeat (first | exact List.mem_cons_self | apply List.mem_cons_of_mem)); exact rfl; exact rfl) | (apply ld_all hT; exact rfl; exact rfl; (repeat (first | exact List.mem_cons_self | apply List.mem_cons_of_mem)); exact rfl))
    | (apply es_box; (iterate 5 exact rfl); intro _) | (apply es_alloc hT; (iterate 5 exact rfl); intro _)
    | (apply aw_condT; (iterate 2 exact rfl)) | (apply aw_condF; (iterate 2 exact rfl))
    | (apply es_case; exact rfl; all_goals intro hb; all_goals (try simp only [hb]); all_goals (first | replace hb := of_decide_eq_true hb | replace hb := of_decide_eq_false hb | replace hb := bne_t hb | replace hb := bne_f hb | skip); all_goals (try (exfalso; omega)))
    | (apply aw_cond; exact rfl; all_goals intro hb; all_goals (try simp only [hb]); all_goals (first | replace hb := of_decide_eq_true hb | replace hb := of_decide_eq_false hb | replace hb := bne_t hb | replace hb := bne_f hb | skip); all_goals (try (exfalso; omega))))
  refine aw_conv (fun w hw => ⟨_, hw.own_nil 29 6, ?_⟩)
  refine aw_loop (α := Nat × List Order × Option Addr × Nat × Option Addr × Nat) (E := fun x => [(0, .slice A0 ls.length c0), (3, .pointer (some ⟨p, 0, none⟩)), (4, .pointer (some ⟨q, 0, none⟩)), (5, .int .i64 x.1)])
    (H := fun x => bookTab p x.2.2.1 x.2.2.2.1 x.2.1 (refB q x.2.2.2.2.1 x.2.2.2.2.2 x.2.1 [])) (μ := fun x => ls.length - x.1)
    (S := fun x => x.1 ≤ ls.length ∧ BookB x.2.1) (0, [], A, c, none, 0) (J := [])
    ⟨Nat.zero_le _, BookB.nil⟩ ⟨rfl, rfl, rfl, rfl, trivial⟩ (by show List.Perm [_, _, _, _] [_, _, _, _]; exact pull2 (selS (selS sel0)) ((selS (selS sel0)).trans (sel1.cons _))) ?_
  rintro ⟨k, l, A1, c1, A2, c2⟩ ⟨hk, hB⟩
  dsimp only at hk hB ⊢
  by_cases hlt : k < ls.length
  · obtain ⟨x, hx⟩ : ∃ x, ls[k]? = some x := ⟨ls[k]'(by omega), List.getElem?_eq_getElem (by omega)⟩
    have hx2 : ls[(k : Int).toNat]? = some x := by simpa using hx
    have hA := hA0 (by omega)
    have hd1 : decide ((k : Int) < (ls.length : Int)) = true := by simp; omega
    by_cases k1 : x.kind = 1
    · have hB2 := hB.add x.order
      have hc1 := fun g => (book_Add W (.blk g 29 x.order.enc :: refB q A2 c2 l []) p A1 c1 l x.order hB.le).perm (h' := .blk g 29 x.order.enc :: bookTab p A1 c1 l (refB q A2 c2 l [])) (pull2 sel1 sel1)
      have hc2 := fun g A3 c3 => (ref14_Add W (bookTab p A3 c3 (addO x.order l) [.blk g 29 x.order.enc]) q A2 c2 l x.order hB.le).perm (h' := bookTab p A3 c3 (addO x.order l) (.blk g 29 x.order.enc :: refB q A2 c2 l [])) (pull2 (selS (selS (selS sel0))) (selS (selS (selS sel0))))
      generalize addOE x.order l = e at hc1 hc2
      have hbl := hB2.len
      have hsl := sideO_len x.order.side (addO x.order l)
      have hvl := levels_len (sideO x.order.side (addO x.order l))
      have hS := fun A c h m1 m2 => book_Side W h p A c (addO x.order l) x.order.side m1 m2 hB2.le hB2.seq hB2.side
      have hL := fun A c h m1 m2 => book_Levels W h p A c (addO x.order l) x.order.side m1 m2 hB2.le hB2.seq hB2.side hB2.left
      have rS := fun A c h m1 m2 => ref14_Side W h q A c (addO x.order l) x.order.side m1 m2 hB2.le
      have rL := fun A c h m1 m2 => ref14_Levels W h q A c (addO x.order l) x.order.side m1 m2 hB2.le hB2.left
      have hLen := fun A c h m1 m2 => (book_Len W p A c (addO x.order l)).mono (h' := h) (memPairB m1 m2)
      generalize sideO x.order.side (addO x.order l) = sm at hS rS hL rL hsl hvl
      generalize levelsO sm = vm at hL rL hvl
      repeat' (first
        | (apply es_sameB hT; (iterate 5 exact rfl))
        | (apply es_diffB hT; (iterate 5 exact rfl))
        | apply aw_seq | apply aw_region | apply aw_ret | apply aw_skip | apply aw_exit | apply aw_block | apply es_nil
        | (apply es_pure hT; (iterate 4 exact rfl)) | (apply es_skip; (iterate 3 exact rfl)) | (apply es_skip0; (iterate 2 exact rfl))
        | (apply es_i64 hT; (iterate 4 exact rfl); (iterate 2 omega))
        | (apply es_idx hT; (iterate 8 exact rfl); (iterate 2 omega); exact hA)
        | ((first | (apply es_load; (iterate 5 exact rfl)) | (apply es_loadL; (iterate 5 exact rfl); first | exact fun _ h => h | (apply keep1; (repeat (first | exact List.mem_cons_self | apply List.mem_cons_of_mem))))); first | exact ld_fld hT rfl rfl (hr0.mono (by simp)) Act14.enc_len (adr_add _ _ _) hx2 (f := 0) (by decide) rfl | exact ld_sub hT rfl rfl (hr0.mono (by simp)) Act14.enc_len (adr_add _ _ _) hx2 (f := 1) (vs := x.order.enc) (Nat.le_of_ble_eq_true rfl) rfl rfl)
        | (apply es_alloc hT; (iterate 5 exact rfl); intro g6)
        | (apply es_store hT; (iterate 6 exact rfl); exact sel0; (iterate 3 exact rfl); exact Nat.le_of_ble_eq_true rfl)
        | (apply aw_treeH [.blk g6 29 x.order.enc] [] [27, 37] (.step 0 <| .step 1 <| .step 3 <| .step 4 <| .step 2 <| .step 5 <| .step 6 <| .step 7 <| .nil) hmix; decide +kernel) | apply ep_nil | apply ep_alt | (apply ep_step; exact rfl)
        | (apply es_callG (hs := (hc1 _)); (iterate 7 exact rfl); (rintro _ _ ⟨rfl, A3, c3, rfl⟩; refine ⟨by (apply keep1; (repeat (first | exact List.mem_cons_self | apply List.mem_cons_of_mem))), ?_⟩))
        | (apply es_callG (hs := (hc2 _ _ _)); (iterate 7 exact rfl); (rintro _ _ ⟨rfl, A4, c4, rfl⟩; refine ⟨by (apply keep1; (repeat (first | exact List.mem_cons_self | apply List.mem_cons_of_mem))), ?_⟩))
        | (apply es_eqS hT; (iterate 5 exact rfl); exact eqO_same _; exact sOKOrder)
        | (apply aw_treeD [36, 32, 42] [28, 30, 41, 43] (.step 0 <| .step 1 <| .step 2 <| .step 3 <| .step 4 <| .step 5 <| .step 6 <| .step 7 <| .step 8 <| .step 9 <| .step 10 <| .step 11 <| .step 12 <| .step 13 <| .step 14 <| .step 15 <| .step 17 <| .step 18 <| .step 19 <| .step 16 <| .step 20 <| .step 21 <| .step 22 <| .step 23 <| .step 24 <| .step 25 <| .step 26 <| .step 27 <| .step 29 <| .step 30 <| .step 31 <| .step 28 <| .step 32 <| .step 33 <| .step 34 <| .step 35 <| .nil) hmix; decide +kernel) | apply ep_nil | apply ep_alt | (apply ep_step; exact rfl)
        | (apply es_callQ (hs := (hLen A3 c3 _ mem2 mem3)); (iterate 7 exact rfl))
        | (apply es_callA (hs := (hS A3 c3 _ mem2 mem3)); (iterate 7 exact rfl); (rintro _ _ ⟨AS, cS, rfl, rfl, hfS⟩; refine ⟨[_], rfl, ?_⟩))
        | (apply es_callA (hs := (rS A4 c4 _ (.tail _ mem0) (.tail _ mem1))); (iterate 7 exact rfl); (rintro _ _ ⟨AR, cR, rfl, rfl, hfR⟩; refine ⟨[_], rfl, ?_⟩))
        | (apply es_callQ (hs := (same_two W _ _ _ _ _ sm hfS hfR mem1 mem0 (by omega))); (iterate 7 exact rfl))
        | (apply es_callA (hs := (hL A3 c3 _ (.tail _ (.tail _ mem2)) (.tail _ (.tail _ mem3)))); (iterate 7 exact rfl); (rintro _ _ ⟨AL, cL, rfl, rfl, hfL⟩; refine ⟨[_], rfl, ?_⟩))
        | (apply es_callA (hs := (rL A4 c4 _ (.tail _ (.tail _ (.tail _ mem0))) (.tail _ (.tail _ (.tail _ mem1))))); (iterate 7 exact rfl); (rintro _ _ ⟨AV, cV, rfl, rfl, hfV⟩; refine ⟨[_], rfl, ?_⟩))
        | (apply es_callQ (hs := (shows_two W _ _ _ _ _ vm hfL hfV mem1 mem0 (by omega))); (iterate 7 exact rfl))
        | ((first | (apply es_load; (iterate 5 exact rfl)) | (apply es_loadL; (iterate 5 exact rfl); first | exact fun _ h => h | (apply keep1; (repeat (first | exact List.mem_cons_self | apply List.mem_cons_of_mem))))); first | (apply ld_blk hT; exact rfl; exact rfl; (repeat (first | exact List.mem_cons_self | apply List.mem_cons_of_mem)); exact rfl; exact rfl) | (apply ld_all hT; exact rfl; exact rfl; (repeat (first | exact List.mem_cons_self | apply List.mem_cons_of_mem)); exact rfl))
        | (apply es_box; (iterate 5 exact rfl); intro _) | (apply es_alloc hT; (iterate 5 exact rfl); intro _)
        | (apply aw_condT; (iterate 2 exact rfl)) | (apply aw_condF; (iterate 2 exact rfl))
        | (apply es_case; exact rfl; all_goals intro hb; all_goals (try simp only [hb]); all_goals (first | replace hb := of_decide_eq_true hb | replace hb := of_decide_eq_false hb | replace hb := bne_t hb | replace hb := bne_f hb | skip); all_goals (try (exfalso; omega)))
        | (apply aw_cond; exact rfl; all_goals intro hb; all_goals (try simp only [hb]); all_goals (first | replace hb := of_decide_eq_true hb | replace hb := of_decide_eq_false hb | replace hb := bne_t hb | replace hb := bne_f hb | skip); all_goals (try (exfalso; omega))))
      all_goals first
        | exact loopq_end (k + 1, addO x.order l, A3, c3, A4, c4) (by dsimp only; omega) ⟨by dsimp only; omega, hB2⟩ ⟨rfl, rfl, rfl, rfl, trivial⟩ (by apply dt_cons; (repeat (first | exact sel0 | apply selS)); apply dt_cons; (repeat (first | exact sel0 | apply selS)); apply dt_cons; (repeat (first | exact sel0 | apply selS)); apply dt_cons; (repeat (first | exact sel0 | apply selS)); (repeat (first | exact dt_end | apply dt_skip)))
        | skip
    · have k1' : (x.kind == 1) = false := beq_eq_false_iff_ne.2 k1
      obtain ⟨y, b, hyb⟩ := gotO_is (getO x.order.id l)
      by_cases k2 : x.kind = 2
      · have hB2 := hB.sub (dropO_sub x.order.id l)
        have hc1 := fun g => (book_Drop W (.blk g 29 x.order.enc :: refB q A2 c2 l []) p A1 c1 l x.order.id hB.le).perm (h' := .blk g 29 x.order.enc :: bookTab p A1 c1 l (refB q A2 c2 l [])) (pull2 sel1 sel1)
        have hc2 := fun g g2 A3 c3 => (ref14_Drop W (.blk g2 29 y.enc :: bookTab p A3 c3 (dropO x.order.id l) [.blk g 29 x.order.enc]) q A2 c2 l x.order.id hB.le).perm (h' := .blk g2 29 y.enc :: bookTab p A3 c3 (dropO x.order.id l) (.blk g 29 x.order.enc :: refB q A2 c2 l [])) (pull2 (selS (selS (selS (selS sel0)))) (selS (selS (selS (selS sel0)))))
        rw [hyb] at hc1 hc2
        cases b
        all_goals
          have hbl := hB2.len
          have hsl := sideO_len x.order.side (dropO x.order.id l)
          have hvl := levels_len (sideO x.order.side (dropO x.order.id l))
          have hS := fun A c h m1 m2 => book_Side W h p A c (dropO x.order.id l) x.order.side m1 m2 hB2.le hB2.seq hB2.side
          have hL := fun A c h m1 m2 => book_Levels W h p A c (dropO x.order.id l) x.order.side m1 m2 hB2.le hB2.seq hB2.side hB2.left
          have rS := fun A c h m1 m2 => ref14_Side W h q A c (dropO x.order.id l) x.order.side m1 m2 hB2.le
          have rL := fun A c h m1 m2 => ref14_Levels W h q A c (dropO x.order.id l) x.order.side m1 m2 hB2.le hB2.left
          have hLen := fun A c h m1 m2 => (book_Len W p A c (dropO x.order.id l)).mono (h' := h) (memPairB m1 m2)
          generalize sideO x.order.side (dropO x.order.id l) = sm at hS rS hL rL hsl hvl
          generalize levelsO sm = vm at hL rL hvl
          repeat' (first
            | (apply es_sameB hT; (iterate 5 exact rfl))
            | (apply es_diffB hT; (iterate 5 exact rfl))
            | apply aw_seq | apply aw_region | apply aw_ret | apply aw_skip | apply aw_exit | apply aw_block | apply es_nil
            | (apply es_pure hT; (iterate 4 exact rfl)) | (apply es_skip; (iterate 3 exact rfl)) | (apply es_skip0; (iterate 2 exact rfl))
            | (apply es_i64 hT; (iterate 4 exact rfl); (iterate 2 omega))
            | (apply es_idx hT; (iterate 8 exact rfl); (iterate 2 omega); exact hA)
            | (apply es_load; (iterate 5 exact rfl); first | exact ld_fld hT rfl rfl (hr0.mono (by simp)) Act14.enc_len (adr_add _ _ _) hx2 (f := 0) (by decide) rfl | exact ld_sub hT rfl rfl (hr0.mono (by simp)) Act14.enc_len (adr_add _ _ _) hx2 (f := 1) (vs := x.order.enc) (Nat.le_of_ble_eq_true rfl) rfl rfl)
            | (apply es_alloc hT; (iterate 5 exact rfl); intro g6)
            | (apply es_store hT; (iterate 6 exact rfl); exact sel0; (iterate 3 exact rfl); exact Nat.le_of_ble_eq_true rfl)
            | (apply es_call (hs := (hc1 _)); (iterate 7 exact rfl); (rintro _ _ ⟨rfl, A3, c3, rfl⟩))
            | (apply es_call (hs := (hc2 _ _ _ _)); (iterate 7 exact rfl); (rintro _ _ ⟨rfl, A4, c4, rfl⟩))
            | (apply es_eqS hT; (iterate 5 exact rfl); exact eqO_same _; exact sOKOrder)
            | (apply aw_treeD [36, 32, 42] [28, 30, 41, 43] (.step 0 <| .step 1 <| .step 2 <| .step 3 <| .step 4 <| .step 5 <| .step 6 <| .step 7 <| .step 8 <| .step 9 <| .step 10 <| .step 11 <| .step 12 <| .step 13 <| .step 14 <| .step 15 <| .step 17 <| .step 18 <| .step 19 <| .step 16 <| .step 20 <| .step 21 <| .step 22 <| .step 23 <| .step 24 <| .step 25 <| .step 26 <| .step 27 <| .step 29 <| .step 30 <| .step 31 <| .step 28 <| .step 32 <| .step 33 <| .step 34 <| .step 35 <| .nil) hmix; decide +kernel) | apply ep_nil | apply ep_alt | (apply ep_step; exact rfl)
            | (apply es_callQ (hs := (hLen A3 c3 _ mem4 mem5)); (iterate 7 exact rfl))
            | (apply es_callA (hs := (hS A3 c3 _ mem4 mem5)); (iterate 7 exact rfl); (rintro _ _ ⟨AS, cS, rfl, rfl, hfS⟩; refine ⟨[_], rfl, ?_⟩))
            | (apply es_callA (hs := (rS A4 c4 _ (.tail _ mem1) (.tail _ mem2))); (iterate 7 exact rfl); (rintro _ _ ⟨AR, cR, rfl, rfl, hfR⟩; refine ⟨[_], rfl, ?_⟩))
            | (apply es_callQ (hs := (same_two W _ _ _ _ _ sm hfS hfR mem1 mem0 (by omega))); (iterate 7 exact rfl))
            | (apply es_callA (hs := (hL A3 c3 _ (.tail _ (.tail _ mem4)) (.tail _ (.tail _ mem5)))); (iterate 7 exact rfl); (rintro _ _ ⟨AL, cL, rfl, rfl, hfL⟩; refine ⟨[_], rfl, ?_⟩))
            | (apply es_callA (hs := (rL A4 c4 _ (.tail _ (.tail _ (.tail _ mem1))) (.tail _ (.tail _ (.tail _ mem2))))); (iterate 7 exact rfl); (rintro _ _ ⟨AV, cV, rfl, rfl, hfV⟩; refine ⟨[_], rfl, ?_⟩))
            | (apply es_callQ (hs := (shows_two W _ _ _ _ _ vm hfL hfV mem1 mem0 (by omega))); (iterate 7 exact rfl))
            | (apply es_load; (iterate 5 exact rfl); first | (apply ld_blk hT; exact rfl; exact rfl; (repeat (first | exact List.mem_cons_self | apply List.mem_cons_of_mem)); exact rfl; exact rfl) | (apply ld_all hT; exact rfl; exact rfl; (repeat (first | exact List.mem_cons_self | apply List.mem_cons_of_mem)); exact rfl))
            | (apply es_box; (iterate 5 exact rfl); intro _) | (apply es_alloc hT; (iterate 5 exact rfl); intro _)
            | (apply aw_condT; (iterate 2 exact rfl)) | (apply aw_condF; (iterate 2 exact rfl))
            | (apply es_case; exact rfl; all_goals intro hb; all_goals (try simp only [hb]); all_goals (first | replace hb := of_decide_eq_true hb | replace hb := of_decide_eq_false hb | replace hb := bne_t hb | replace hb := bne_f hb | skip); all_goals (try (exfalso; omega)))
            | (apply aw_cond; exact rfl; all_goals intro hb; all_goals (try simp only [hb]); all_goals (first | replace hb := of_decide_eq_true hb | replace hb := of_decide_eq_false hb | replace hb := bne_t hb | replace hb := bne_f hb | skip); all_goals (try (exfalso; omega))))
          all_goals first
            | exact loopq_end (k + 1, dropO x.order.id l, A3, c3, A4, c4) (by dsimp only; omega) ⟨by dsimp only; omega, hB2⟩ ⟨rfl, rfl, rfl, rfl, trivial⟩ (by apply dt_cons; (repeat (first | exact sel0 | apply selS)); apply dt_cons; (repeat (first | exact sel0 | apply selS)); apply dt_cons; (repeat (first | exact sel0 | apply selS)); apply dt_cons; (repeat (first | exact sel0 | apply selS)); (repeat (first | exact dt_end | apply dt_skip)))
            | skip
      · have k2' : (x.kind == 2) = false := beq_eq_false_iff_ne.2 k2
        by_cases k3 : x.kind = 3
        · have hB2 := hB.lessAny x.order.id x.order.left
          have hc1 := fun g => (book_Less W (.blk g 29 x.order.enc :: refB q A2 c2 l []) p A1 c1 l x.order.id x.order.left hB.le).perm (h' := .blk g 29 x.order.enc :: bookTab p A1 c1 l (refB q A2 c2 l [])) (pull2 sel1 sel1)
          have hc2 := fun g => (ref14_Less W (bookTab p A1 c1 (lessO x.order.id x.order.left l) [.blk g 29 x.order.enc]) q A2 c2 l x.order.id x.order.left hB.le).perm (h' := bookTab p A1 c1 (lessO x.order.id x.order.left l) (.blk g 29 x.order.enc :: refB q A2 c2 l [])) (pull2 (selS (selS (selS sel0))) (selS (selS (selS sel0))))
          generalize lessE x.order.id x.order.left l = e at hc1 hc2
          have hbl := hB2.len
          have hsl := sideO_len x.order.side (lessO x.order.id x.order.left l)
          have hvl := levels_len (sideO x.order.side (lessO x.order.id x.order.left l))
          have hS := fun A c h m1 m2 => book_Side W h p A c (lessO x.order.id x.order.left l) x.order.side m1 m2 hB2.le hB2.seq hB2.side
          have hL := fun A c h m1 m2 => book_Levels W h p A c (lessO x.order.id x.order.left l) x.order.side m1 m2 hB2.le hB2.seq hB2.side hB2.left
          have rS := fun A c h m1 m2 => ref14_Side W h q A c (lessO x.order.id x.order.left l) x.order.side m1 m2 hB2.le
          have rL := fun A c h m1 m2 => ref14_Levels W h q A c (lessO x.order.id x.order.left l) x.order.side m1 m2 hB2.le hB2.left
          have hLen := fun A c h m1 m2 => (book_Len W p A c (lessO x.order.id x.order.left l)).mono (h' := h) (memPairB m1 m2)
          generalize sideO x.order.side (lessO x.order.id x.order.left l) = sm at hS rS hL rL hsl hvl
          generalize levelsO sm = vm at hL rL hvl
          repeat' (first
            | (apply es_sameB hT; (iterate 5 exact rfl))
            | (apply es_diffB hT; (iterate 5 exact rfl))
            | apply aw_seq | apply aw_region | apply aw_ret | apply aw_skip | apply aw_exit | apply aw_block | apply es_nil
            | (apply es_pure hT; (iterate 4 exact rfl)) | (apply es_skip; (iterate 3 exact rfl)) | (apply es_skip0; (iterate 2 exact rfl))
            | (apply es_i64 hT; (iterate 4 exact rfl); (iterate 2 omega))
            | (apply es_idx hT; (iterate 8 exact rfl); (iterate 2 omega); exact hA)
            | ((first | (apply es_load; (iterate 5 exact rfl)) | (apply es_loadL; (iterate 5 exact rfl); first | exact fun _ h => h | (apply keep1; (repeat (first | exact List.mem_cons_self | apply List.mem_cons_of_mem))))); first | exact ld_fld hT rfl rfl (hr0.mono (by simp)) Act14.enc_len (adr_add _ _ _) hx2 (f := 0) (by decide) rfl | exact ld_sub hT rfl rfl (hr0.mono (by simp)) Act14.enc_len (adr_add _ _ _) hx2 (f := 1) (vs := x.order.enc) (Nat.le_of_ble_eq_true rfl) rfl rfl)
            | (apply es_alloc hT; (iterate 5 exact rfl); intro g6)
            | (apply es_store hT; (iterate 6 exact rfl); exact sel0; (iterate 3 exact rfl); exact Nat.le_of_ble_eq_true rfl)
            | (apply aw_treeH [.blk g6 29 x.order.enc] [] [34, 39] (.step 0 <| .step 1 <| .step 2 <| .step 3 <| .step 4 <| .step 6 <| .step 7 <| .step 8 <| .step 9 <| .step 10 <| .step 5 <| .step 11 <| .step 12 <| .step 13 <| .nil) hmix; decide +kernel) | apply ep_nil | apply ep_alt | (apply ep_step; exact rfl)
            | (apply es_callG (hs := (hc1 _)); (iterate 7 exact rfl); (rintro _ _ ⟨rfl, rfl⟩; refine ⟨by (apply keep1; (repeat (first | exact List.mem_cons_self | apply List.mem_cons_of_mem))), ?_⟩))
            | (apply es_callG (hs := (hc2 _)); (iterate 7 exact rfl); (rintro _ _ ⟨rfl, A4, c4, rfl⟩; refine ⟨by (apply keep1; (repeat (first | exact List.mem_cons_self | apply List.mem_cons_of_mem))), ?_⟩))
            | (apply es_eqS hT; (iterate 5 exact rfl); exact eqO_same _; exact sOKOrder)
            | (apply aw_treeD [36, 32, 42] [28, 30, 41, 43] (.step 0 <| .step 1 <| .step 2 <| .step 3 <| .step 4 <| .step 5 <| .step 6 <| .step 7 <| .step 8 <| .step 9 <| .step 10 <| .step 11 <| .step 12 <| .step 13 <| .step 14 <| .step 15 <| .step 17 <| .step 18 <| .step 19 <| .step 16 <| .step 20 <| .step 21 <| .step 22 <| .step 23 <| .step 24 <| .step 25 <| .step 26 <| .step 27 <| .step 29 <| .step 30 <| .step 31 <| .step 28 <| .step 32 <| .step 33 <| .step 34 <| .step 35 <| .nil) hmix; decide +kernel) | apply ep_nil | apply ep_alt | (apply ep_step; exact rfl)
            | (apply es_callQ (hs := (hLen A1 c1 _ mem2 mem3)); (iterate 7 exact rfl))
            | (apply es_callA (hs := (hS A1 c1 _ mem2 mem3)); (iterate 7 exact rfl); (rintro _ _ ⟨AS, cS, rfl, rfl, hfS⟩; refine ⟨[_], rfl, ?_⟩))
            | (apply es_callA (hs := (rS A4 c4 _ (.tail _ mem0) (.tail _ mem1))); (iterate 7 exact rfl); (rintro _ _ ⟨AR, cR, rfl, rfl, hfR⟩; refine ⟨[_], rfl, ?_⟩))
            | (apply es_callQ (hs := (same_two W _ _ _ _ _ sm hfS hfR mem1 mem0 (by omega))); (iterate 7 exact rfl))
            | (apply es_callA (hs := (hL A1 c1 _ (.tail _ (.tail _ mem2)) (.tail _ (.tail _ mem3)))); (iterate 7 exact rfl); (rintro _ _ ⟨AL, cL, rfl, rfl, hfL⟩; refine ⟨[_], rfl, ?_⟩))
            | (apply es_callA (hs := (rL A4 c4 _ (.tail _ (.tail _ (.tail _ mem0))) (.tail _ (.tail _ (.tail _ mem1))))); (iterate 7 exact rfl); (rintro _ _ ⟨AV, cV, rfl, rfl, hfV⟩; refine ⟨[_], rfl, ?_⟩))
            | (apply es_callQ (hs := (shows_two W _ _ _ _ _ vm hfL hfV mem1 mem0 (by omega))); (iterate 7 exact rfl))
            | ((first | (apply es_load; (iterate 5 exact rfl)) | (apply es_loadL; (iterate 5 exact rfl); first | exact fun _ h => h | (apply keep1; (repeat (first | exact List.mem_cons_self | apply List.mem_cons_of_mem))))); first | (apply ld_blk hT; exact rfl; exact rfl; (repeat (first | exact List.mem_cons_self | apply List.mem_cons_of_mem)); exact rfl; exact rfl) | (apply ld_all hT; exact rfl; exact rfl; (repeat (first | exact List.mem_cons_self | apply List.mem_cons_of_mem)); exact rfl))
            | (apply es_box; (iterate 5 exact rfl); intro _) | (apply es_alloc hT; (iterate 5 exact rfl); intro _)
            | (apply aw_condT; (iterate 2 exact rfl)) | (apply aw_condF; (iterate 2 exact rfl))
            | (apply es_case; exact rfl; all_goals intro hb; all_goals (try simp only [hb]); all_goals (first | replace hb := of_decide_eq_true hb | replace hb := of_decide_eq_false hb | replace hb := bne_t hb | replace hb := bne_f hb | skip); all_goals (try (exfalso; omega)))
            | (apply aw_cond; exact rfl; all_goals intro hb; all_goals (try simp only [hb]); all_goals (first | replace hb := of_decide_eq_true hb | replace hb := of_decide_eq_false hb | replace hb := bne_t hb | replace hb := bne_f hb | skip); all_goals (try (exfalso; omega))))
          all_goals first
            | exact loopq_end (k + 1, lessO x.order.id x.order.left l, A1, c1, A4, c4) (by dsimp only; omega) ⟨by dsimp only; omega, hB2⟩ ⟨rfl, rfl, rfl, rfl, trivial⟩ (by apply dt_cons; (repeat (first | exact sel0 | apply selS)); apply dt_cons; (repeat (first | exact sel0 | apply selS)); apply dt_cons; (repeat (first | exact sel0 | apply selS)); apply dt_cons; (repeat (first | exact sel0 | apply selS)); (repeat (first | exact dt_end | apply dt_skip)))
            | skip
        · have k3' : (x.kind == 3) = false := beq_eq_false_iff_ne.2 k3
          have hc1 := fun h m1 m2 => ((book_Get W p A1 c1 l x.order.id hB.le).mono (h' := h) (memPairB m1 m2)).cast hyb
          have hc2 := fun h m1 m2 => ((ref14_Get W q A2 c2 l x.order.id hB.le).mono (h' := h) (memPairB m1 m2)).cast hyb
          cases b
          all_goals
            have hbl := hB.len
            have hsl := sideO_len x.order.side (l)
            have hvl := levels_len (sideO x.order.side (l))
            have hS := fun A c h m1 m2 => book_Side W h p A c (l) x.order.side m1 m2 hB.le hB.seq hB.side
            have hL := fun A c h m1 m2 => book_Levels W h p A c (l) x.order.side m1 m2 hB.le hB.seq hB.side hB.left
            have rS := fun A c h m1 m2 => ref14_Side W h q A c (l) x.order.side m1 m2 hB.le
            have rL := fun A c h m1 m2 => ref14_Levels W h q A c (l) x.order.side m1 m2 hB.le hB.left
            have hLen := fun A c h m1 m2 => (book_Len W p A c (l)).mono (h' := h) (memPairB m1 m2)
            generalize sideO x.order.side (l) = sm at hS rS hL rL hsl hvl
            generalize levelsO sm = vm at hL rL hvl
            repeat' (first
              | (apply es_sameB hT; (iterate 5 exact rfl))
              | (apply es_diffB hT; (iterate 5 exact rfl))
              | apply aw_seq | apply aw_region | apply aw_ret | apply aw_skip | apply aw_exit | apply aw_block | apply es_nil
              | (apply es_pure hT; (iterate 4 exact rfl)) | (apply es_skip; (iterate 3 exact rfl)) | (apply es_skip0; (iterate 2 exact rfl))
              | (apply es_i64 hT; (iterate 4 exact rfl); (iterate 2 omega))
              | (apply es_idx hT; (iterate 8 exact rfl); (iterate 2 omega); exact hA)
              | (apply es_load; (iterate 5 exact rfl); first | exact ld_fld hT rfl rfl (hr0.mono (by simp)) Act14.enc_len (adr_add _ _ _) hx2 (f := 0) (by decide) rfl | exact ld_sub hT rfl rfl (hr0.mono (by simp)) Act14.enc_len (adr_add _ _ _) hx2 (f := 1) (vs := x.order.enc) (Nat.le_of_ble_eq_true rfl) rfl rfl)
              | (apply es_alloc hT; (iterate 5 exact rfl); intro g6)
              | (apply es_store hT; (iterate 6 exact rfl); exact sel0; (iterate 3 exact rfl); exact Nat.le_of_ble_eq_true rfl)
              | (apply es_callQ (hs := (hc1 _ mem1 mem2)); (iterate 7 exact rfl))
              | (apply es_callQ (hs := (hc2 _ mem4 mem5)); (iterate 7 exact rfl))
              | (apply es_eqS hT; (iterate 5 exact rfl); exact eqO_same _; exact sOKOrder)
              | (apply aw_treeD [36, 32, 42] [28, 30, 41, 43] (.step 0 <| .step 1 <| .step 2 <| .step 3 <| .step 4 <| .step 5 <| .step 6 <| .step 7 <| .step 8 <| .step 9 <| .step 10 <| .step 11 <| .step 12 <| .step 13 <| .step 14 <| .step 15 <| .step 17 <| .step 18 <| .step 19 <| .step 16 <| .step 20 <| .step 21 <| .step 22 <| .step 23 <| .step 24 <| .step 25 <| .step 26 <| .step 27 <| .step 29 <| .step 30 <| .step 31 <| .step 28 <| .step 32 <| .step 33 <| .step 34 <| .step 35 <| .nil) hmix; decide +kernel) | apply ep_nil | apply ep_alt | (apply ep_step; exact rfl)
              | (apply es_callQ (hs := (hLen A1 c1 _ mem3 mem4)); (iterate 7 exact rfl))
              | (apply es_callA (hs := (hS A1 c1 _ mem3 mem4)); (iterate 7 exact rfl); (rintro _ _ ⟨AS, cS, rfl, rfl, hfS⟩; refine ⟨[_], rfl, ?_⟩))
              | (apply es_callA (hs := (rS A2 c2 _ (.tail _ mem5) (.tail _ (.tail _ mem5)))); (iterate 7 exact rfl); (rintro _ _ ⟨AR, cR, rfl, rfl, hfR⟩; refine ⟨[_], rfl, ?_⟩))
              | (apply es_callQ (hs := (same_two W _ _ _ _ _ sm hfS hfR mem1 mem0 (by omega))); (iterate 7 exact rfl))
              | (apply es_callA (hs := (hL A1 c1 _ (.tail _ (.tail _ mem3)) (.tail _ (.tail _ mem4)))); (iterate 7 exact rfl); (rintro _ _ ⟨AL, cL, rfl, rfl, hfL⟩; refine ⟨[_], rfl, ?_⟩))
              | (apply es_callA (hs := (rL A2 c2 _ (.tail _ (.tail _ (.tail _ mem5))) (.tail _ (.tail _ (.tail _ (.tail _ mem5)))))); (iterate 7 exact rfl); (rintro _ _ ⟨AV, cV, rfl, rfl, hfV⟩; refine ⟨[_], rfl, ?_⟩))
              | (apply es_callQ (hs := (shows_two W _ _ _ _ _ vm hfL hfV mem1 mem0 (by omega))); (iterate 7 exact rfl))
              | (apply es_load; (iterate 5 exact rfl); first | (apply ld_blk hT; exact rfl; exact rfl; (repeat (first | exact List.mem_cons_self | apply List.mem_cons_of_mem)); exact rfl; exact rfl) | (apply ld_all hT; exact rfl; exact rfl; (repeat (first | exact List.mem_cons_self | apply List.mem_cons_of_mem)); exact rfl))
              | (apply es_box; (iterate 5 exact rfl); intro _) | (apply es_alloc hT; (iterate 5 exact rfl); intro _)
              | (apply aw_condT; (iterate 2 exact rfl)) | (apply aw_condF; (iterate 2 exact rfl))
              | (apply es_case; exact rfl; all_goals intro hb; all_goals (try simp only [hb]); all_goals (first | replace hb := of_decide_eq_true hb | replace hb := of_decide_eq_false hb | replace hb := bne_t hb | replace hb := bne_f hb | skip); all_goals (try (exfalso; omega)))
              | (apply aw_cond; exact rfl; all_goals intro hb; all_goals (try simp only [hb]); all_goals (first | replace hb := of_decide_eq_true hb | replace hb := of_decide_eq_false hb | replace hb := bne_t hb | replace hb := bne_f hb | skip); all_goals (try (exfalso; omega))))
            all_goals first
              | exact loopq_end (k + 1, l, A1, c1, A2, c2) (by dsimp only; omega) ⟨by dsimp only; omega, hB⟩ ⟨rfl, rfl, rfl, rfl, trivial⟩ (by apply dt_cons; (repeat (first | exact sel0 | apply selS)); apply dt_cons; (repeat (first | exact sel0 | apply selS)); apply dt_cons; (repeat (first | exact sel0 | apply selS)); apply dt_cons; (repeat (first | exact sel0 | apply selS)); (repeat (first | exact dt_end | apply dt_skip)))
              | skip
  · obtain rfl : k = ls.length := by omega
    have hd1 : decide ((ls.length : Int) < (ls.length : Int)) = false := by simp
    have hkn := book_known W
    repeat' (first
      | apply aw_seq | apply aw_region | apply aw_ret | apply aw_skip | apply aw_exit | apply aw_block | apply es_nil
      | (apply es_pure hT; (iterate 4 exact rfl)) | (apply es_skip; (iterate 3 exact rfl)) | (apply es_skip0; (iterate 2 exact rfl))
      | (apply es_i64 hT; (iterate 4 exact rfl); (iterate 2 omega))
      | (apply aw_draw [] [] hmix; decide +kernel)
      | (apply es_callQ (hs := (hkn.mono (by simp))); (iterate 7 exact rfl))
      | (apply es_load; (iterate 5 exact rfl); first | (apply ld_blk hT; exact rfl; exact rfl; (repeat (first | exact List.mem_cons_self | apply List.mem_cons_of_mem)); exact rfl; exact rfl) | (apply ld_all hT; exact rfl; exact rfl; (repeat (first | exact List.mem_cons_self | apply List.mem_cons_of_mem)); exact rfl))
      | (apply es_box; (iterate 5 exact rfl); intro _) | (apply es_alloc hT; (iterate 5 exact rfl); intro _)
      | (apply aw_condT; (iterate 2 exact rfl)) | (apply aw_condF; (iterate 2 exact rfl))
      | (apply es_case; exact rfl; all_goals intro hb; all_goals (try simp only [hb]); all_goals (first | replace hb := of_decide_eq_true hb | replace hb := of_decide_eq_false hb | replace hb := bne_t hb | replace hb := bne_f hb | skip); all_goals (try (exfalso; omega)))
      | (apply aw_cond; exact rfl; all_goals intro hb; all_goals (try simp only [hb]); all_goals (first | replace hb := of_decide_eq_true hb | replace hb := of_decide_eq_false hb | replace hb := bne_t hb | replace hb := bne_f hb | skip); all_goals (try (exfalso; omega))))
    all_goals first
      | (apply ret1; exact rfl; exact rfl)
      | (exfalso; simp_all; done)
end Go.Proofs.Ytiefkpfamkkapaa
