/- Contracts of package cross and of the document's answer (consolsref15), first: what an order meets. Conditions stand in each statement. -/
import Derived.Test.YtiefkpfamkkapaaCrossW
import Derived.Test.YtiefkpfamkkapaaBoth15
import Derived.Test.YtiefkpfamkkapaaSlK
set_option linter.unusedSimpArgs false
set_option linter.unusedVariables false
namespace Go.Proofs.Ytiefkpfamkkapaa
open Go Go.Sl
attribute [local irreducible] AW ES EP Ld RetQ
set_option maxRecDepth 100000

theorem side_Takes (W : World) (s a b : Int) : QSpec Try.prog W 123 [.int .i64 s, .int .i64 a, .int .i64 b] [] (.bool (isB s && !betterB s b a)) := by
  refine QSpec.ofD (fun h' hs => ?_)
  have hI := side_Is W s
  have hB := side_Better W s b a
  refine spec_body Try.func123 rfl rfl Try.results123 Try.ntmps123 rfl rfl ?_
  repeat' (first
    | apply aw_seq | apply aw_region | apply aw_ret | apply aw_skip | apply aw_exit | apply aw_block | apply es_nil
    | (apply es_pure hT; (iterate 4 exact rfl)) | (apply es_skip; (iterate 3 exact rfl)) | (apply es_skip0; (iterate 2 exact rfl))
    | (apply es_i64 hT; (iterate 4 exact rfl); (iterate 2 omega))
    | (apply aw_draw [] [] hmix; decide +kernel)
    | (apply es_callQ (hs := (hI.mono (by simp))); (iterate 7 exact rfl))
    | (apply es_callQ (hs := (hB.mono (by simp))); (iterate 7 exact rfl))
    | (apply es_load; (iterate 5 exact rfl); first | (apply ld_blk hT; exact rfl; exact rfl; (repeat (first | exact List.mem_cons_self | apply List.mem_cons_of_mem)); exact rfl; exact rfl) | (apply ld_all hT; exact rfl; exact rfl; (repeat (first | exact List.mem_cons_self | apply List.mem_cons_of_mem)); exact rfl))
    | (apply es_box; (iterate 5 exact rfl); intro _) | (apply es_alloc hT; (iterate 5 exact rfl); intro _)
    | (apply aw_condT; (iterate 2 exact rfl)) | (apply aw_condF; (iterate 2 exact rfl))
    | (apply es_case; exact rfl; all_goals intro hb; all_goals (try simp only [hb]); all_goals (first | replace hb := of_decide_eq_true hb | replace hb := of_decide_eq_false hb | replace hb := bne_t hb | replace hb := bne_f hb | skip); all_goals (try (exfalso; omega)))
    | (apply aw_cond; exact rfl; all_goals intro hb; all_goals (try simp only [hb]); all_goals (first | replace hb := of_decide_eq_true hb | replace hb := of_decide_eq_false hb | replace hb := bne_t hb | replace hb := bne_f hb | skip); all_goals (try (exfalso; omega))))
  all_goals
    apply ret1; exact rfl
    refine ⟨?_, by (repeat (first | exact dt_end | apply dt_skip))⟩
    simp [*]
theorem ref2_Takes (W : World) (s a b : Int) : QSpec Try.prog W 72 [.int .i64 s, .int .i64 a, .int .i64 b] [] (.bool (isB s && !betterB s b a)) := by
  refine QSpec.ofD (fun h' hs => ?_)
  have hI := ref2_Is W s
  have hB := ref2_Better W s b a
  refine spec_body Try.func72 rfl rfl Try.results72 Try.ntmps72 rfl rfl ?_
  repeat' (first
    | apply aw_seq | apply aw_region | apply aw_ret | apply aw_skip | apply aw_exit | apply aw_block | apply es_nil
    | (apply es_pure hT; (iterate 4 exact rfl)) | (apply es_skip; (iterate 3 exact rfl)) | (apply es_skip0; (iterate 2 exact rfl))
    | (apply es_i64 hT; (iterate 4 exact rfl); (iterate 2 omega))
    | (apply aw_draw [] [] hmix; decide +kernel)
    | (apply es_callQ (hs := (hI.mono (by simp))); (iterate 7 exact rfl))
    | (apply es_callQ (hs := (hB.mono (by simp))); (iterate 7 exact rfl))
    | (apply es_load; (iterate 5 exact rfl); first | (apply ld_blk hT; exact rfl; exact rfl; (repeat (first | exact List.mem_cons_self | apply List.mem_cons_of_mem)); exact rfl; exact rfl) | (apply ld_all hT; exact rfl; exact rfl; (repeat (first | exact List.mem_cons_self | apply List.mem_cons_of_mem)); exact rfl))
    | (apply es_box; (iterate 5 exact rfl); intro _) | (apply es_alloc hT; (iterate 5 exact rfl); intro _)
    | (apply aw_condT; (iterate 2 exact rfl)) | (apply aw_condF; (iterate 2 exact rfl))
    | (apply es_case; exact rfl; all_goals intro hb; all_goals (try simp only [hb]); all_goals (first | replace hb := of_decide_eq_true hb | replace hb := of_decide_eq_false hb | replace hb := bne_t hb | replace hb := bne_f hb | skip); all_goals (try (exfalso; omega)))
    | (apply aw_cond; exact rfl; all_goals intro hb; all_goals (try simp only [hb]); all_goals (first | replace hb := of_decide_eq_true hb | replace hb := of_decide_eq_false hb | replace hb := bne_t hb | replace hb := bne_f hb | skip); all_goals (try (exfalso; omega))))
  all_goals
    apply ret1; exact rfl
    refine ⟨?_, by (repeat (first | exact dt_end | apply dt_skip))⟩
    simp [*]
theorem cross_takes (W : World) (o x : Order) (how : Int) : QSpec Try.prog W 109 [.agg o.enc.toArray, .agg x.enc.toArray, .int .i64 how] [] (.bool (takesB how o x)) := by
  refine QSpec.ofD (fun h' hs => ?_)
  have hT' := side_Takes W o.side o.price x.price
  refine spec_body Try.func109 rfl rfl Try.results109 Try.ntmps109 rfl rfl ?_
  repeat' (first
    | apply aw_seq | apply aw_region | apply aw_ret | apply aw_skip | apply aw_exit | apply aw_block | apply es_nil
    | (apply es_pure hT; (iterate 4 exact rfl)) | (apply es_skip; (iterate 3 exact rfl)) | (apply es_skip0; (iterate 2 exact rfl))
    | (apply es_i64 hT; (iterate 4 exact rfl); (iterate 2 omega))
    | (apply aw_draw [] [] hmix; decide +kernel)
    | (apply es_callQ (hs := (hT'.mono (by simp))); (iterate 7 exact rfl))
    | (apply es_load; (iterate 5 exact rfl); first | (apply ld_blk hT; exact rfl; exact rfl; (repeat (first | exact List.mem_cons_self | apply List.mem_cons_of_mem)); exact rfl; exact rfl) | (apply ld_all hT; exact rfl; exact rfl; (repeat (first | exact List.mem_cons_self | apply List.mem_cons_of_mem)); exact rfl))
    | (apply es_box; (iterate 5 exact rfl); intro _) | (apply es_alloc hT; (iterate 5 exact rfl); intro _)
    | (apply aw_condT; (iterate 2 exact rfl)) | (apply aw_condF; (iterate 2 exact rfl))
    | (apply es_case; exact rfl; all_goals intro hb; all_goals (try simp only [hb]); all_goals (first | replace hb := of_decide_eq_true hb | replace hb := of_decide_eq_false hb | replace hb := bne_t hb | replace hb := bne_f hb | skip); all_goals (try (exfalso; omega)))
    | (apply aw_cond; exact rfl; all_goals intro hb; all_goals (try simp only [hb]); all_goals (first | replace hb := of_decide_eq_true hb | replace hb := of_decide_eq_false hb | replace hb := bne_t hb | replace hb := bne_f hb | skip); all_goals (try (exfalso; omega))))
  all_goals
    apply ret1; exact rfl
    refine ⟨?_, by (repeat (first | exact dt_end | apply dt_skip))⟩
    simp [takesB, *]
theorem cross_meets1 (W : World) (o x : Order) (how : Int) (g1 g2 : Nat) : QSpec Try.prog W 108 [.agg x.enc.toArray, .pointer (some ⟨g1, 0, none⟩), .pointer (some ⟨g2, 0, none⟩)] [.blk g1 29 o.enc, .blk g2 3 [.int .i64 how]] (.bool (!takesB how o x)) := by
  refine QSpec.ofD (fun h' hs => ?_)
  have m1 := hs _ mem0
  have m2 := hs _ mem1
  have hT' := cross_takes W o x how
  refine spec_body Try.func108 rfl rfl Try.results108 Try.ntmps108 rfl rfl ?_
  repeat' (first
    | apply aw_seq | apply aw_region | apply aw_ret | apply aw_skip | apply aw_exit | apply aw_block | apply es_nil
    | (apply es_pure hT; (iterate 4 exact rfl)) | (apply es_skip; (iterate 3 exact rfl)) | (apply es_skip0; (iterate 2 exact rfl))
    | (apply es_i64 hT; (iterate 4 exact rfl); (iterate 2 omega))
    | (apply aw_draw [] [] hmix; decide +kernel)
    | (apply es_callQ (hs := (hT'.mono (by simp))); (iterate 7 exact rfl))
    | (apply es_load; (iterate 5 exact rfl); first | (apply ld_blk hT; exact rfl; exact rfl; (repeat (first | exact List.mem_cons_self | exact m1 | exact m2 | apply List.mem_cons_of_mem)); exact rfl; exact rfl) | (apply ld_all hT; exact rfl; exact rfl; (repeat (first | exact List.mem_cons_self | exact m1 | exact m2 | apply List.mem_cons_of_mem)); exact rfl))
    | (apply es_box; (iterate 5 exact rfl); intro _) | (apply es_alloc hT; (iterate 5 exact rfl); intro _)
    | (apply aw_condT; (iterate 2 exact rfl)) | (apply aw_condF; (iterate 2 exact rfl))
    | (apply es_case; exact rfl; all_goals intro hb; all_goals (try simp only [hb]); all_goals (first | replace hb := of_decide_eq_true hb | replace hb := of_decide_eq_false hb | replace hb := bne_t hb | replace hb := bne_f hb | skip); all_goals (try (exfalso; omega)))
    | (apply aw_cond; exact rfl; all_goals intro hb; all_goals (try simp only [hb]); all_goals (first | replace hb := of_decide_eq_true hb | replace hb := of_decide_eq_false hb | replace hb := bne_t hb | replace hb := bne_f hb | skip); all_goals (try (exfalso; omega))))
  apply ret1; exact rfl
  exact ⟨rfl, by (repeat (first | exact dt_end | apply dt_skip))⟩
set_option maxHeartbeats 1000000 in
theorem cross_meets0 (W : World) (h : List Chunk) (p : Nat) (A : Option Addr) (c : Nat) (l : List Order) (o : Order) (how : Int) (hB : BookB l) (m1 : Chunk.blk p 105 [.slice A l.length c] ∈ h) (m2 : Chunk.own A l.length c 29 6 (l.flatMap Order.enc) ∈ h) :
    FSpec Try.prog W 91 [.pointer (some ⟨p, 0, none⟩), .agg o.enc.toArray, .int .i64 how] h
      (fun v h' => ∃ A' c', v = .slice A' (meetsO how o l).length c' ∧ h' = .own A' (sideO (otherB o.side) l).length c' 29 6 ((sideO (otherB o.side) l).flatMap Order.enc) :: h) := by
  refine FSpec.dropF ?_
  have hO := side_Other W o.side
  have hS := fun h m1 m2 => book_Side W h p A c l (otherB o.side) m1 m2 hB.le hB.seq hB.side
  have hsl := sideO_len (otherB o.side) l
  have hbl := hB.len
  unfold meetsO
  generalize sideO (otherB o.side) l = sl at hS hsl ⊢
  obtain ⟨hi1, hi2⟩ := idx_tw (p := takesB how o) (l := sl)
  have hidx : ∀ h A2 c2 g1 g2, OwnF A2 sl.length c2 6 (sl.flatMap Order.enc) → Chunk.own A2 sl.length c2 29 6 (sl.flatMap Order.enc) ∈ h → Chunk.blk g1 29 o.enc ∈ h → Chunk.blk g2 3 [.int .i64 how] ∈ h → QSpec Try.prog W 98 [.slice A2 sl.length c2, .func (.func 108) #[] #[.pointer (some ⟨g1, 0, none⟩), .pointer (some ⟨g2, 0, none⟩)]] h (.int .i64 (idxOf (fun x => !takesB how o x) sl)) := fun h A2 c2 g1 g2 hf n1 n2 n3 =>
    indexFuncOrder W h A2 _ c2 sl rfl (hf.reads n1) _ [_, _] (fun x => !takesB how o x) (fun x _ => (cross_meets1 W o x how g1 g2).mono (memPairB n2 n3)) (by omega)
  refine spec_body Try.func91 rfl rfl Try.results91 Try.ntmps91 rfl rfl ?_
  rcases Int.lt_or_le (idxOf (fun x => !takesB how o x) sl) 0 with hneg | hpos
  · rw [hi1 hneg]
    generalize idxOf (fun x => !takesB how o x) sl = ix at hneg hidx
    repeat' (first
      | apply aw_seq | apply aw_region | apply aw_ret | apply aw_skip | apply aw_exit | apply aw_block | apply es_nil
      | (apply es_pure hT; (iterate 4 exact rfl)) | (apply es_skip; (iterate 3 exact rfl)) | (apply es_skip0; (iterate 2 exact rfl))
      | (apply es_i64 hT; (iterate 4 exact rfl); (iterate 2 omega))
      | (apply aw_draw [] [] hmix; decide +kernel)
      | (apply es_box; (iterate 5 exact rfl); first | ((fail_if_success (have q := g4)); intro g4) | intro g5)
      | (apply es_callQ (hs := (hO.mono (by simp))); (iterate 7 exact rfl))
      | (apply es_call (hs := (hS _ (.tail _ (.tail _ m1)) (.tail _ (.tail _ m2)))); (iterate 7 exact rfl); rintro _ _ ⟨AS, cS, rfl, rfl, hfS⟩)
      | (apply es_callQ (hs := (hidx _ _ _ _ _ hfS (by (repeat (first | exact List.mem_cons_self | apply List.mem_cons_of_mem))) (by (repeat (first | exact List.mem_cons_self | apply List.mem_cons_of_mem))) (by (repeat (first | exact List.mem_cons_self | apply List.mem_cons_of_mem))))); (iterate 7 exact rfl))
      | (apply es_load; (iterate 5 exact rfl); first | (apply ld_blk hT; exact rfl; exact rfl; (repeat (first | exact List.mem_cons_self | apply List.mem_cons_of_mem)); exact rfl; exact rfl) | (apply ld_all hT; exact rfl; exact rfl; (repeat (first | exact List.mem_cons_self | apply List.mem_cons_of_mem)); exact rfl))
      | (apply es_box; (iterate 5 exact rfl); intro _) | (apply es_alloc hT; (iterate 5 exact rfl); intro _)
      | (apply aw_condT; (iterate 2 exact rfl)) | (apply aw_condF; (iterate 2 exact rfl))
      | (apply es_case; exact rfl; all_goals intro hb; all_goals (try simp only [hb]); all_goals (first | replace hb := of_decide_eq_true hb | replace hb := of_decide_eq_false hb | replace hb := bne_t hb | replace hb := bne_f hb | skip); all_goals (try (exfalso; omega)))
      | (apply aw_cond; exact rfl; all_goals intro hb; all_goals (try simp only [hb]); all_goals (first | replace hb := of_decide_eq_true hb | replace hb := of_decide_eq_false hb | replace hb := bne_t hb | replace hb := bne_f hb | skip); all_goals (try (exfalso; omega))))
    all_goals first
      | (exfalso; omega)
      | (apply ret1; exact rfl
         exact ⟨.own AS sl.length cS 29 6 (sl.flatMap Order.enc) :: h, by (repeat (first | exact dt_end | (apply dt_cons; · (repeat (first | exact sel0 | apply selS))) | apply dt_skip)), fun w hw => ⟨AS, cS, rfl, rfl⟩⟩)
      | skip
  · obtain ⟨i, hi⟩ := Int.eq_ofNat_of_zero_le hpos
    obtain ⟨e1, e2⟩ := hi2 i hi
    have hln : (sl.take i).length = i := by simp; omega
    rw [e1, hln]
    rw [hi] at hidx
    repeat' (first
      | apply aw_seq | apply aw_region | apply aw_ret | apply aw_skip | apply aw_exit | apply aw_block | apply es_nil
      | (apply es_pure hT; (iterate 4 exact rfl)) | (apply es_skip; (iterate 3 exact rfl)) | (apply es_skip0; (iterate 2 exact rfl))
      | (apply es_i64 hT; (iterate 4 exact rfl); (iterate 2 omega))
      | (apply aw_draw [] [] hmix; decide +kernel)
      | (apply es_box; (iterate 5 exact rfl); first | ((fail_if_success (have q := g4)); intro g4) | intro g5)
      | (apply es_callQ (hs := (hO.mono (by simp))); (iterate 7 exact rfl))
      | (apply es_call (hs := (hS _ (.tail _ (.tail _ m1)) (.tail _ (.tail _ m2)))); (iterate 7 exact rfl); rintro _ _ ⟨AS, cS, rfl, rfl, hfS⟩)
      | (apply es_callQ (hs := (hidx _ _ _ _ _ hfS (by (repeat (first | exact List.mem_cons_self | apply List.mem_cons_of_mem))) (by (repeat (first | exact List.mem_cons_self | apply List.mem_cons_of_mem))) (by (repeat (first | exact List.mem_cons_self | apply List.mem_cons_of_mem))))); (iterate 7 exact rfl))
      | (apply es_sliceTo hT; (iterate 8 exact rfl); omega; (have hnc := hfS.nc; omega))
      | (apply es_load; (iterate 5 exact rfl); first | (apply ld_blk hT; exact rfl; exact rfl; (repeat (first | exact List.mem_cons_self | apply List.mem_cons_of_mem)); exact rfl; exact rfl) | (apply ld_all hT; exact rfl; exact rfl; (repeat (first | exact List.mem_cons_self | apply List.mem_cons_of_mem)); exact rfl))
      | (apply es_box; (iterate 5 exact rfl); intro _) | (apply es_alloc hT; (iterate 5 exact rfl); intro _)
      | (apply aw_condT; (iterate 2 exact rfl)) | (apply aw_condF; (iterate 2 exact rfl))
      | (apply es_case; exact rfl; all_goals intro hb; all_goals (try simp only [hb]); all_goals (first | replace hb := of_decide_eq_true hb | replace hb := of_decide_eq_false hb | replace hb := bne_t hb | replace hb := bne_f hb | skip); all_goals (try (exfalso; omega)))
      | (apply aw_cond; exact rfl; all_goals intro hb; all_goals (try simp only [hb]); all_goals (first | replace hb := of_decide_eq_true hb | replace hb := of_decide_eq_false hb | replace hb := bne_t hb | replace hb := bne_f hb | skip); all_goals (try (exfalso; omega))))
    all_goals first
      | (exfalso; omega)
      | (apply ret1; exact rfl
         exact ⟨.own AS sl.length cS 29 6 (sl.flatMap Order.enc) :: h, by (repeat (first | exact dt_end | (apply dt_cons; · (repeat (first | exact sel0 | apply selS))) | apply dt_skip)), fun w hw => ⟨AS, cS, rfl, rfl⟩⟩)
      | skip
theorem cross_meets (W : World) (h : List Chunk) (p : Nat) (A : Option Addr) (c : Nat) (l : List Order) (o : Order) (how : Int) (hB : BookB l) (m1 : Chunk.blk p 105 [.slice A l.length c] ∈ h) (m2 : Chunk.own A l.length c 29 6 (l.flatMap Order.enc) ∈ h) :
    FSpec Try.prog W 91 [.pointer (some ⟨p, 0, none⟩), .agg o.enc.toArray, .int .i64 how] h
      (fun v h' => ∃ A' c', v = .slice A' (meetsO how o l).length c' ∧ h' = .own A' (meetsO how o l).length c' 29 6 ((meetsO how o l).flatMap Order.enc) :: h ∧ OwnF A' (meetsO how o l).length c' 6 ((meetsO how o l).flatMap Order.enc)) := by
  refine (cross_meets0 W h p A c l o how hB m1 m2).conv ?_
  rintro v h' ⟨A', c', rfl, rfl⟩ w hw
  have hpre := List.takeWhile_prefix (takesB how o) (l := sideO (otherB o.side) l)
  have hle : (meetsO how o l).length ≤ (sideO (otherB o.side) l).length := hpre.length_le
  have hw2 := shrink_own hw hle
  have e : (sideO (otherB o.side) l).take (meetsO how o l).length = meetsO how o l := (List.prefix_iff_eq_take.1 hpre).symm
  rw [flat_take Order.enc_len, e] at hw2
  exact ⟨_, hw2, A', c', rfl, rfl, hw2.ownF mem0⟩
theorem ref15_meets (W : World) (o m : Order) (how : Int) : QSpec Try.prog W 92 [.agg o.enc.toArray, .int .i64 how, .agg m.enc.toArray] [] (.bool (meetsB how o m)) := by
  refine QSpec.ofD (fun h' hs => ?_)
  have hO := ref2_Other W o.side
  have hT' := ref2_Takes W o.side o.price m.price
  refine spec_body Try.func92 rfl rfl Try.results92 Try.ntmps92 rfl rfl ?_
  repeat' (first
    | apply aw_seq | apply aw_region | apply aw_ret | apply aw_skip | apply aw_exit | apply aw_block | apply es_nil
    | (apply es_pure hT; (iterate 4 exact rfl)) | (apply es_skip; (iterate 3 exact rfl)) | (apply es_skip0; (iterate 2 exact rfl))
    | (apply es_i64 hT; (iterate 4 exact rfl); (iterate 2 omega))
    | (apply aw_draw [61, 72] [] hmix; decide +kernel)
    | (apply es_callQ (hs := (hO.mono (by simp))); (iterate 7 exact rfl))
    | (apply es_callQ (hs := (hT'.mono (by simp))); (iterate 7 exact rfl))
    | (apply es_load; (iterate 5 exact rfl); first | (apply ld_blk hT; exact rfl; exact rfl; (repeat (first | exact List.mem_cons_self | apply List.mem_cons_of_mem)); exact rfl; exact rfl) | (apply ld_all hT; exact rfl; exact rfl; (repeat (first | exact List.mem_cons_self | apply List.mem_cons_of_mem)); exact rfl))
    | (apply es_box; (iterate 5 exact rfl); intro _) | (apply es_alloc hT; (iterate 5 exact rfl); intro _)
    | (apply aw_condT; (iterate 2 exact rfl)) | (apply aw_condF; (iterate 2 exact rfl))
    | (apply es_case; exact rfl; all_goals intro hb; all_goals (try simp only [hb]); all_goals (first | replace hb := of_decide_eq_true hb | replace hb := of_decide_eq_false hb | replace hb := bne_t hb | replace hb := bne_f hb | skip); all_goals (try (exfalso; omega)))
    | (apply aw_cond; exact rfl; all_goals intro hb; all_goals (try simp only [hb]); all_goals (first | replace hb := of_decide_eq_true hb | replace hb := of_decide_eq_false hb | replace hb := bne_t hb | replace hb := bne_f hb | skip); all_goals (try (exfalso; omega))))
  all_goals
    apply ret1; exact rfl
    refine ⟨?_, by (repeat (first | exact dt_end | apply dt_skip))⟩
    simp [meetsB, takesB, *]
end Go.Proofs.Ytiefkpfamkkapaa
