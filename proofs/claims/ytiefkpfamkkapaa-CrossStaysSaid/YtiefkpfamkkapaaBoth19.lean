/- The helpers of the statements of chapter 19: both books of the same orders; do both have the same? Conditions stand in each statement. -/
import Derived.Test.YtiefkpfamkkapaaBothL
set_option linter.unusedSimpArgs false
set_option linter.unusedVariables false
namespace Go.Proofs.Ytiefkpfamkkapaa
open Go Go.Sl
attribute [local irreducible] AW ES EP Ld RetQ
set_option maxRecDepth 100000

set_option maxHeartbeats 1000000 in
theorem both19 (W : World) (h : List Chunk) (A0 : Option Addr) (c0 : Nat) (ls : List Order) (hr0 : Reads W h A0 ls.length 6 (ls.flatMap Order.enc)) (hb : ls.length ≤ 1000000) :
    FSpec Try.prog W 56 [.slice A0 ls.length c0] h (fun v h' => ∃ p A c q A' c', v = .tuple #[.pointer (some ⟨p, 0, none⟩), .pointer (some ⟨q, 0, none⟩)] ∧ h' = bookTab p A c (bookOf ls) (refB q A' c' (bookOf ls) h)) := by
  refine FSpec.dropTo ?_
  refine spec_body Try.func56 rfl rfl Try.results56 Try.ntmps56 rfl rfl ?_
  refine aw_reads hr0 (by rfl) (fun hA0 => ?_)
  repeat' (first
    | apply aw_seq | apply aw_region | apply aw_ret | apply aw_skip | apply aw_exit | apply aw_block | apply es_nil
    | (apply es_pure hT; (iterate 4 exact rfl)) | (apply es_skip; (iterate 3 exact rfl)) | (apply es_skip0; (iterate 2 exact rfl))
    | (apply es_i64 hT; (iterate 4 exact rfl); (iterate 2 omega))
    | (apply aw_draw [] [] hmix; decide +kernel)
    | (apply es_call (hs := (book_New W _)); (iterate 7 exact rfl); rintro _ _ ⟨p, A, c, rfl, rfl⟩)
    | (apply es_build hT; (iterate 4 exact rfl))
    | (apply es_box; (iterate 5 exact rfl); intro q)
    | (apply es_load; (iterate 5 exact rfl); first | (apply ld_blk hT; exact rfl; exact rfl; (repeat (first | exact List.mem_cons_self | apply List.mem_cons_of_mem)); exact rfl; exact rfl) | (apply ld_all hT; exact rfl; exact rfl; (repeat (first | exact List.mem_cons_self | apply List.mem_cons_of_mem)); exact rfl))
    | (apply es_box; (iterate 5 exact rfl); intro _) | (apply es_alloc hT; (iterate 5 exact rfl); intro _)
    | (apply aw_condT; (iterate 2 exact rfl)) | (apply aw_condF; (iterate 2 exact rfl))
    | (apply es_case; exact rfl; all_goals intro hb; all_goals (try simp only [hb]); all_goals (first | replace hb := of_decide_eq_true hb | replace hb := of_decide_eq_false hb | replace hb := bne_t hb | replace hb := bne_f hb | skip); all_goals (try (exfalso; omega)))
    | (apply aw_cond; exact rfl; all_goals intro hb; all_goals (try simp only [hb]); all_goals (first | replace hb := of_decide_eq_true hb | replace hb := of_decide_eq_false hb | replace hb := bne_t hb | replace hb := bne_f hb | skip); all_goals (try (exfalso; omega))))
  refine aw_conv (fun w hw => ⟨_, hw.own_nil 29 6, ?_⟩)
  refine aw_loop (α := Nat × Option Addr × Nat × Option Addr × Nat) (E := fun x => [(0, .slice A0 ls.length c0), (4, .pointer (some ⟨p, 0, none⟩)), (5, .pointer (some ⟨q, 0, none⟩)), (6, .int .i64 x.1)])
    (H := fun x => bookTab p x.2.1 x.2.2.1 (bookOf (ls.take x.1)) (refB q x.2.2.2.1 x.2.2.2.2 (bookOf (ls.take x.1)) h)) (μ := fun x => ls.length - x.1)
    (S := fun x => x.1 ≤ ls.length) (0, A, c, none, 0) (J := [])
    (Nat.zero_le _) ⟨rfl, rfl, rfl, rfl, trivial⟩ (by show List.Perm (_ :: _ :: _ :: _ :: h) (_ :: _ :: _ :: _ :: h); exact pull2 (selS (selS sel0)) ((selS (selS sel0)).trans (sel1.cons _))) ?_
  rintro ⟨k, A1, c1, A2, c2⟩ hk
  dsimp only at hk ⊢
  by_cases hlt : k < ls.length
  · obtain ⟨x, hx⟩ : ∃ x, ls[k]? = some x := ⟨ls[k]'(by omega), List.getElem?_eq_getElem (by omega)⟩
    have hx2 : ls[(k : Int).toNat]? = some x := by simpa using hx
    have hA := hA0 (by omega)
    have hd1 : decide ((k : Int) < (ls.length : Int)) = true := by simp; omega
    have hB := bookOf_B (ls.take k)
    have hst : bookOf (ls.take (k + 1)) = addO x (bookOf (ls.take k)) := by rw [List.take_add_one, hx, bookOf_add]
    generalize bookOf (ls.take k) = l at hB hst ⊢
    have hc1 := (book_Add W (refB q A2 c2 l h) p A1 c1 l x hB.le)
    have hc2 := fun A3 c3 => (ref14_Add W (bookTab p A3 c3 (addO x l) h) q A2 c2 l x hB.le).perm (h' := bookTab p A3 c3 (addO x l) (refB q A2 c2 l h)) (pull2 (selS (selS sel0)) (selS (selS sel0)))
    repeat' (first
      | apply aw_seq | apply aw_region | apply aw_ret | apply aw_skip | apply aw_exit | apply aw_block | apply es_nil
      | (apply es_pure hT; (iterate 4 exact rfl)) | (apply es_skip; (iterate 3 exact rfl)) | (apply es_skip0; (iterate 2 exact rfl))
      | (apply es_i64 hT; (iterate 4 exact rfl); (iterate 2 omega))
      | (apply aw_draw [] [] hmix; decide +kernel)
      | (apply es_idx hT; (iterate 8 exact rfl); (iterate 2 omega); exact hA)
      | (apply es_load; (iterate 5 exact rfl); exact ld_elem hT rfl rfl (hr0.mono (fun x hx => .tail _ (.tail _ (.tail _ (.tail _ hx))))) Order.enc_len rfl hx2 rfl)
      | (apply es_call (hs := hc1); (iterate 7 exact rfl); rintro _ _ ⟨rfl, A3, c3, rfl⟩)
      | (apply es_call (hs := (hc2 _ _)); (iterate 7 exact rfl); rintro _ _ ⟨rfl, A4, c4, rfl⟩)
      | (apply es_load; (iterate 5 exact rfl); first | (apply ld_blk hT; exact rfl; exact rfl; (repeat (first | exact List.mem_cons_self | apply List.mem_cons_of_mem)); exact rfl; exact rfl) | (apply ld_all hT; exact rfl; exact rfl; (repeat (first | exact List.mem_cons_self | apply List.mem_cons_of_mem)); exact rfl))
      | (apply es_box; (iterate 5 exact rfl); intro _) | (apply es_alloc hT; (iterate 5 exact rfl); intro _)
      | (apply aw_condT; (iterate 2 exact rfl)) | (apply aw_condF; (iterate 2 exact rfl))
      | (apply es_case; exact rfl; all_goals intro hb; all_goals (try simp only [hb]); all_goals (first | replace hb := of_decide_eq_true hb | replace hb := of_decide_eq_false hb | replace hb := bne_t hb | replace hb := bne_f hb | skip); all_goals (try (exfalso; omega)))
      | (apply aw_cond; exact rfl; all_goals intro hb; all_goals (try simp only [hb]); all_goals (first | replace hb := of_decide_eq_true hb | replace hb := of_decide_eq_false hb | replace hb := bne_t hb | replace hb := bne_f hb | skip); all_goals (try (exfalso; omega))))
    all_goals first
      | (exfalso; omega)
      | (refine loopq_end (k + 1, A3, c3, A4, c4) (by dsimp only; omega) (by dsimp only; omega) ⟨rfl, rfl, rfl, rfl, trivial⟩ ?_
         dsimp only
         rw [hst]
         apply dt_cons; (repeat (first | exact sel0 | apply selS))
         apply dt_cons; (repeat (first | exact sel0 | apply selS))
         apply dt_cons; (repeat (first | exact sel0 | apply selS))
         apply dt_cons; (repeat (first | exact sel0 | apply selS))
         (repeat (first | exact dt_end | apply dt_skip)))
      | skip
  · obtain rfl : k = ls.length := by omega
    have hd1 : decide ((ls.length : Int) < (ls.length : Int)) = false := by simp
    rw [List.take_length]
    repeat' (first
      | apply aw_seq | apply aw_region | apply aw_ret | apply aw_skip | apply aw_exit | apply aw_block | apply es_nil
      | (apply es_pure hT; (iterate 4 exact rfl)) | (apply es_skip; (iterate 3 exact rfl)) | (apply es_skip0; (iterate 2 exact rfl))
      | (apply es_i64 hT; (iterate 4 exact rfl); (iterate 2 omega))
      | (apply aw_draw [] [] hmix; decide +kernel)
      | (apply es_load; (iterate 5 exact rfl); first | (apply ld_blk hT; exact rfl; exact rfl; (repeat (first | exact List.mem_cons_self | apply List.mem_cons_of_mem)); exact rfl; exact rfl) | (apply ld_all hT; exact rfl; exact rfl; (repeat (first | exact List.mem_cons_self | apply List.mem_cons_of_mem)); exact rfl))
      | (apply es_box; (iterate 5 exact rfl); intro _) | (apply es_alloc hT; (iterate 5 exact rfl); intro _)
      | (apply aw_condT; (iterate 2 exact rfl)) | (apply aw_condF; (iterate 2 exact rfl))
      | (apply es_case; exact rfl; all_goals intro hb; all_goals (try simp only [hb]); all_goals (first | replace hb := of_decide_eq_true hb | replace hb := of_decide_eq_false hb | replace hb := bne_t hb | replace hb := bne_f hb | skip); all_goals (try (exfalso; omega)))
      | (apply aw_cond; exact rfl; all_goals intro hb; all_goals (try simp only [hb]); all_goals (first | replace hb := of_decide_eq_true hb | replace hb := of_decide_eq_false hb | replace hb := bne_t hb | replace hb := bne_f hb | skip); all_goals (try (exfalso; omega))))
    all_goals first
      | (exfalso; omega)
      | (apply ret2; exact rfl; exact rfl; exact ⟨_, dt_end, p, A1, c1, q, A2, c2, rfl, rfl⟩)

theorem same19 (W : World) (h : List Chunk) (p q : Nat) (A A' : Option Addr) (c c' : Nat) (l : List Order) (hB : BookB l) (n1 : Chunk.blk p 105 [.slice A l.length c] ∈ h) (n2 : Chunk.own A l.length c 29 6 (l.flatMap Order.enc) ∈ h)
    (n3 : Chunk.blk q 47 [.slice A' l.length c'] ∈ h) (n4 : Chunk.own A' l.length c' 29 6 (l.flatMap Order.enc) ∈ h) :
    QSpec Try.prog W 58 [.pointer (some ⟨p, 0, none⟩), .pointer (some ⟨q, 0, none⟩)] h (.bool true) := by
  refine QSpec.ofD (fun h' hs => ?_)
  have m1 := hs _ n1
  have m2 := hs _ n2
  have m3 := hs _ n3
  have m4 := hs _ n4
  have hbl := hB.len
  have hs1 := sideO_len 1 l
  have hs2 := sideO_len 2 l
  have hS1 := fun h m1 m2 => book_Side W h p A c l 1 m1 m2 hB.le hB.seq hB.side
  have rS1 := fun h m1 m2 => ref14_Side W h q A' c' l 1 m1 m2 hB.le
  have hS2 := fun h m1 m2 => book_Side W h p A c l 2 m1 m2 hB.le hB.seq hB.side
  have rS2 := fun h m1 m2 => ref14_Side W h q A' c' l 2 m1 m2 hB.le
  have hLen := fun h m1 m2 => (book_Len W p A c l).mono (h' := h) (memPairB m1 m2)
  generalize sideO 1 l = s1 at hS1 rS1 hs1
  generalize sideO 2 l = s2 at hS2 rS2 hs2
  refine spec_body Try.func58 rfl rfl Try.results58 Try.ntmps58 rfl rfl ?_
  repeat' (first
    | (apply es_sameB hT; (iterate 5 exact rfl))
    | apply aw_seq | apply aw_region | apply aw_ret | apply aw_skip | apply aw_exit | apply aw_block | apply es_nil
    | (apply es_pure hT; (iterate 4 exact rfl)) | (apply es_skip; (iterate 3 exact rfl)) | (apply es_skip0; (iterate 2 exact rfl))
    | (apply es_i64 hT; (iterate 4 exact rfl); (iterate 2 omega))
    | (apply aw_treeD [36, 32] [28, 41] (.step 0 <| .step 1 <| .step 2 <| .step 3 <| .step 4 <| .step 5 <| .step 6 <| .step 7 <| .step 8 <| .step 9 <| .step 11 <| .step 10 <| .step 12 <| .step 13 <| .step 14 <| .step 15 <| .step 16 <| .step 18 <| .step 17 <| .step 19 <| .step 20 <| .step 21 <| .step 22 <| .nil) hmix; decide +kernel) | apply ep_nil | apply ep_alt | (apply ep_step; exact rfl)
    | (apply es_callQ (hs := (hLen _ m1 m2)); (iterate 7 exact rfl))
    | (apply es_callA (hs := (hS1 _ m1 m2)); (iterate 7 exact rfl); (rintro _ _ ⟨AS, cS, rfl, rfl, hfS⟩; refine ⟨[_], rfl, ?_⟩))
    | (apply es_callA (hs := (rS1 _ (.tail _ m3) (.tail _ m4))); (iterate 7 exact rfl); (rintro _ _ ⟨AR, cR, rfl, rfl, hfR⟩; refine ⟨[_], rfl, ?_⟩))
    | (apply es_callQ (hs := (same_two W _ _ _ _ _ s1 hfS hfR mem1 mem0 (by omega))); (iterate 7 exact rfl))
    | (apply es_callA (hs := (hS2 _ (.tail _ (.tail _ m1)) (.tail _ (.tail _ m2)))); (iterate 7 exact rfl); (rintro _ _ ⟨AT, cT, rfl, rfl, hfT⟩; refine ⟨[_], rfl, ?_⟩))
    | (apply es_callA (hs := (rS2 _ (.tail _ (.tail _ (.tail _ m3))) (.tail _ (.tail _ (.tail _ m4))))); (iterate 7 exact rfl); (rintro _ _ ⟨AU, cU, rfl, rfl, hfU⟩; refine ⟨[_], rfl, ?_⟩))
    | (apply es_callQ (hs := (same_two W _ _ _ _ _ s2 hfT hfU mem1 mem0 (by omega))); (iterate 7 exact rfl))
    | (apply es_load; (iterate 5 exact rfl); first | (apply ld_blk hT; exact rfl; exact rfl; (repeat (first | exact List.mem_cons_self | exact m1 | exact m3 | apply List.mem_cons_of_mem)); exact rfl; exact rfl) | (apply ld_all hT; exact rfl; exact rfl; (repeat (first | exact List.mem_cons_self | exact m1 | exact m3 | apply List.mem_cons_of_mem)); exact rfl))
    | (apply es_box; (iterate 5 exact rfl); intro _) | (apply es_alloc hT; (iterate 5 exact rfl); intro _)
    | (apply aw_condT; (iterate 2 exact rfl)) | (apply aw_condF; (iterate 2 exact rfl))
    | (apply es_case; exact rfl; all_goals intro hb; all_goals (try simp only [hb]); all_goals (first | replace hb := of_decide_eq_true hb | replace hb := of_decide_eq_false hb | replace hb := bne_t hb | replace hb := bne_f hb | skip); all_goals (try (exfalso; omega)))
    | (apply aw_cond; exact rfl; all_goals intro hb; all_goals (try simp only [hb]); all_goals (first | replace hb := of_decide_eq_true hb | replace hb := of_decide_eq_false hb | replace hb := bne_t hb | replace hb := bne_f hb | skip); all_goals (try (exfalso; omega))))
  all_goals first
    | (exfalso; omega)
    | (apply ret1; exact rfl; exact ⟨rfl, by (repeat (first | exact dt_end | apply dt_skip))⟩)
    | skip
end Go.Proofs.Ytiefkpfamkkapaa
