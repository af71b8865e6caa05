/- Contracts of package cross, last: a trade; an order comes. Conditions stand in each statement. -/
import Derived.Test.YtiefkpfamkkapaaCross4
import Derived.Test.YtiefkpfamkkapaaSlM
set_option linter.unusedSimpArgs false
set_option linter.unusedVariables false
namespace Go.Proofs.Ytiefkpfamkkapaa
open Go Go.Sl
attribute [local irreducible] AW ES EP Ld RetQ
set_option maxRecDepth 100000

set_option maxHeartbeats 1000000 in
theorem cross_trade (W : World) (F : List Chunk) (p g : Nat) (A : Option Addr) (c : Nat) (l : List Order) (o x : Order) (hB : BookB l) (ho : 0 ≤ o.left ∧ o.left ≤ 1000000) (hx : 1 ≤ x.left ∧ x.left ≤ 1000000) :
    FSpec Try.prog W 94 [.pointer (some ⟨p, 0, none⟩), .pointer (some ⟨g, 0, none⟩), .agg x.enc.toArray] (bookTab p A c l (.blk g 29 o.enc :: F))
      (fun v h' => v = .agg (FillR.enc ⟨x.id, o.id, x.owner, o.owner, x.price, min o.left x.left, x.left - min o.left x.left⟩).toArray ∧ ∃ A' c', h' = bookTab p A' c' (if min o.left x.left = x.left then dropO x.id l else lessO x.id (x.left - min o.left x.left) l) (.blk g 29 (Order.enc { o with left := o.left - min o.left x.left }) :: F)) := by
  refine FSpec.dropTo ?_
  refine spec_body Try.func94 rfl rfl Try.results94 Try.ntmps94 rfl rfl ?_
  generalize hn : min o.left x.left = n
  have hd := fun g5 g6 => (book_Drop W (.blk g6 95 ti95.zero.cells.toList :: .blk g5 29 x.enc :: .blk g 29 (Order.enc { o with left := o.left - n }) :: F) p A c l x.id hB.le)
  have hls := fun g5 g6 => (book_Less W (.blk g6 95 ti95.zero.cells.toList :: .blk g5 29 x.enc :: .blk g 29 (Order.enc { o with left := o.left - n }) :: F) p A c l x.id (x.left - n) hB.le)
  by_cases hc : n = x.left
  · rw [if_pos hc]
    have hc2 : (n == x.left) = true := by simpa using hc
    repeat' (first
      | apply aw_seq | apply aw_region | apply aw_ret | apply aw_skip | apply aw_exit | apply aw_block | apply es_nil
      | (apply es_pure hT; (iterate 4 exact rfl)) | (apply es_skip; (iterate 3 exact rfl)) | (apply es_skip0; (iterate 2 exact rfl))
      | (apply es_i64 hT; (iterate 4 exact rfl); (iterate 2 omega))
      | (apply es_box; (iterate 5 exact rfl); intro g5)
      | (apply es_alloc hT; (iterate 5 exact rfl); first | ((fail_if_success (have q := g6)); intro g6) | intro _)
      | (apply aw_draw [] [] hmix; decide +kernel)
      | (apply es_min; (iterate 5 exact rfl); rw [hn])
      | (apply es_store hT; (iterate 6 exact rfl); (repeat (first | exact sel0 | apply selS)); (iterate 3 exact rfl); exact Nat.le_of_ble_eq_true rfl)
      | (apply es_buildS hT (cs := FillR.enc ⟨x.id, o.id, x.owner, o.owner, x.price, n, x.left - n⟩); (iterate 4 exact rfl))
      | (apply es_call (hs := (FSpec.perm (hd g5 g6) (by (repeat (first | exact List.Perm.refl _ | (apply permC; · (repeat (first | exact sel0 | apply selS)))))))); (iterate 7 exact rfl); rintro _ _ ⟨rfl, A2, c2, rfl⟩)
      | (apply es_load; (iterate 5 exact rfl); first | (apply ld_blk hT; exact rfl; exact rfl; (repeat (first | exact List.mem_cons_self | apply List.mem_cons_of_mem)); exact rfl; exact rfl) | (apply ld_all hT; exact rfl; exact rfl; (repeat (first | exact List.mem_cons_self | apply List.mem_cons_of_mem)); exact rfl))
      | (apply es_box; (iterate 5 exact rfl); intro _) | (apply es_alloc hT; (iterate 5 exact rfl); intro _)
      | (apply aw_condT; (iterate 2 exact rfl)) | (apply aw_condF; (iterate 2 exact rfl))
      | (apply es_case; exact rfl; all_goals intro hb; all_goals (try simp only [hb]); all_goals (first | replace hb := of_decide_eq_true hb | replace hb := of_decide_eq_false hb | replace hb := bne_t hb | replace hb := bne_f hb | skip); all_goals (try (exfalso; omega)))
      | (apply aw_cond; exact rfl; all_goals intro hb; all_goals (try simp only [hb]); all_goals (first | replace hb := of_decide_eq_true hb | replace hb := of_decide_eq_false hb | replace hb := bne_t hb | replace hb := bne_f hb | skip); all_goals (try (exfalso; omega))))
    all_goals first
      | (exfalso; omega)
      | (apply ret1c; exact rfl; exact ld_all hT rfl rfl (by (repeat (first | exact List.mem_cons_self | apply List.mem_cons_of_mem))) rfl; exact ⟨_, by (repeat (first | exact dt_end | (apply dt_cons; · (repeat (first | exact sel0 | apply selS))) | apply dt_skip)), rfl, A2, c2, rfl⟩)
      | skip
  · rw [if_neg hc]
    have hc2 : (n == x.left) = false := by simpa using hc
    repeat' (first
      | apply aw_seq | apply aw_region | apply aw_ret | apply aw_skip | apply aw_exit | apply aw_block | apply es_nil
      | (apply es_pure hT; (iterate 4 exact rfl)) | (apply es_skip; (iterate 3 exact rfl)) | (apply es_skip0; (iterate 2 exact rfl))
      | (apply es_i64 hT; (iterate 4 exact rfl); (iterate 2 omega))
      | (apply es_box; (iterate 5 exact rfl); intro g5)
      | (apply es_alloc hT; (iterate 5 exact rfl); first | ((fail_if_success (have q := g6)); intro g6) | intro _)
      | (apply aw_draw [] [] hmix; decide +kernel)
      | (apply es_min; (iterate 5 exact rfl); rw [hn])
      | (apply es_store hT; (iterate 6 exact rfl); (repeat (first | exact sel0 | apply selS)); (iterate 3 exact rfl); exact Nat.le_of_ble_eq_true rfl)
      | (apply es_buildS hT (cs := FillR.enc ⟨x.id, o.id, x.owner, o.owner, x.price, n, x.left - n⟩); (iterate 4 exact rfl))
      | (apply es_call (hs := (FSpec.perm (hls g5 g6) (by (repeat (first | exact List.Perm.refl _ | (apply permC; · (repeat (first | exact sel0 | apply selS)))))))); (iterate 7 exact rfl); rintro _ _ ⟨rfl, rfl⟩)
      | (apply es_load; (iterate 5 exact rfl); first | (apply ld_blk hT; exact rfl; exact rfl; (repeat (first | exact List.mem_cons_self | apply List.mem_cons_of_mem)); exact rfl; exact rfl) | (apply ld_all hT; exact rfl; exact rfl; (repeat (first | exact List.mem_cons_self | apply List.mem_cons_of_mem)); exact rfl))
      | (apply es_box; (iterate 5 exact rfl); intro _) | (apply es_alloc hT; (iterate 5 exact rfl); intro _)
      | (apply aw_condT; (iterate 2 exact rfl)) | (apply aw_condF; (iterate 2 exact rfl))
      | (apply es_case; exact rfl; all_goals intro hb; all_goals (try simp only [hb]); all_goals (first | replace hb := of_decide_eq_true hb | replace hb := of_decide_eq_false hb | replace hb := bne_t hb | replace hb := bne_f hb | skip); all_goals (try (exfalso; omega)))
      | (apply aw_cond; exact rfl; all_goals intro hb; all_goals (try simp only [hb]); all_goals (first | replace hb := of_decide_eq_true hb | replace hb := of_decide_eq_false hb | replace hb := bne_t hb | replace hb := bne_f hb | skip); all_goals (try (exfalso; omega))))
    all_goals first
      | (exfalso; omega)
      | (apply ret1c; exact rfl; exact ld_all hT rfl rfl (by (repeat (first | exact List.mem_cons_self | apply List.mem_cons_of_mem))) rfl; exact ⟨_, by (repeat (first | exact dt_end | (apply dt_cons; · (repeat (first | exact sel0 | apply selS))) | apply dt_skip)), rfl, A, c, rfl⟩)
      | skip
end Go.Proofs.Ytiefkpfamkkapaa
