/- What the statement BookLess answers. Conditions stand in each statement. -/
import Derived.Test.YtiefkpfamkkapaaBookO
set_option linter.unusedSimpArgs false
set_option linter.unusedVariables false
namespace Go.Proofs.Ytiefkpfamkkapaa
open Go Go.Sl
attribute [local irreducible] AW ES EP Ld RetQ
set_option maxRecDepth 100000

/-- less of one order: in a side, too -/
def lf (id left : Int) (x : Order) : Order := if x.id = id then { x with left := left } else x
theorem lf_ahead (id left s : Int) (a b : Order) : aheadS s (lf id left a) (lf id left b) = aheadS s a b := by
  unfold lf aheadS; split <;> split <;> rfl
theorem lf_side (id left s : Int) (a : Order) : isSide s (lf id left a) = isSide s a := by unfold lf isSide; split <;> rfl
theorem insO_map (id left s : Int) (out : List Order) (o : Order) : insO s (out.map (lf id left)) (lf id left o) = (insO s out o).map (lf id left) := by
  have e : ((out.map (lf id left)).takeWhile fun x => aheadS s x (lf id left o)).length = (out.takeWhile fun x => aheadS s x o).length := by
    rw [List.takeWhile_map, List.length_map]
    congr 2
    funext x
    exact lf_ahead id left s x o
  unfold insO
  rw [e]
  simp [List.map_take, List.map_drop]
theorem sideO_map (id left s : Int) (l : List Order) : sideO s (l.map (lf id left)) = (sideO s l).map (lf id left) := by
  have key : ∀ (l out : List Order), (l.map (lf id left)).foldl (insO s) (out.map (lf id left)) = (l.foldl (insO s) out).map (lf id left) := by
    intro l
    induction l with
    | nil => intro out; rfl
    | cons x l ih => intro out; rw [List.map_cons, List.foldl_cons, List.foldl_cons, insO_map, ih]
  unfold sideO
  have e : (l.map (lf id left)).filter (isSide s) = (l.filter (isSide s)).map (lf id left) := by
    rw [List.filter_map]
    congr 1
    apply List.filter_congr
    intro x _
    exact lf_side id left s x
  rw [e]
  exact key _ []
theorem lessO_map {id left : Int} {l : List Order} (hu : l.Pairwise fun a b => a.id ≠ b.id) (hE : lessE id left l = 0) : lessO id left l = l.map (lf id left) := by
  rcases find_at (p := hasO id) l with ⟨hi, hf⟩ | ⟨i, x, hi, hx, hp, hf⟩
  · simp [lessE, getO, hf] at hE
  · have hg : getO id l = some x := hf
    have hL : lessO id left l = l.set i { x with left := left } := by simp [lessO, hg, hE, hi]
    rw [hL]
    have hxi : x.id = id := by simpa [hasO] using hp
    obtain ⟨hlt, hxe⟩ := List.getElem?_eq_some_iff.1 hx
    apply List.ext_getElem?
    intro j
    rw [List.getElem?_map]
    by_cases hij : i = j
    · subst hij
      rw [hx, List.getElem?_set_self hlt]; simp [lf, hxi]
    · rw [List.getElem?_set_ne hij]
      cases hy : l[j]? with
      | none => rfl
      | some y =>
        simp only [Option.map_some]
        obtain ⟨hjl, hye⟩ := List.getElem?_eq_some_iff.1 hy
        have hne : y.id ≠ x.id := by
          rcases Nat.lt_or_gt_of_ne hij with h | h
          · have := List.pairwise_iff_getElem.1 hu i j hlt hjl h
            rw [hxe, hye] at this; exact fun e => this e.symm
          · have := List.pairwise_iff_getElem.1 hu j i hjl hlt h
            rw [hxe, hye] at this; exact this
        rw [lf, if_neg (by rw [← hxi]; exact hne)]
theorem lessO_no {id left : Int} {l : List Order} (hE : ¬ lessE id left l = 0) : lessO id left l = l := by
  unfold lessO
  split
  · rfl
  · rw [if_neg hE]
theorem BookB.less {l : List Order} (h : BookB l) {id left : Int} (hE : lessE id left l = 0) : BookB (lessO id left l) := by
  rw [lessO_map h.id hE]
  have hq : 1 ≤ left ∧ ∀ x ∈ l, x.id = id → left ≤ x.left := by
    rcases find_at (p := hasO id) l with ⟨hi, hf⟩ | ⟨i, x, hi, hx, hp, hf⟩
    · simp [lessE, getO, hf] at hE
    · have hg : getO id l = some x := hf
      have hb : ¬ (left < 1 ∨ left > x.left) := fun hh => by simp [lessE, hg, hh] at hE
      refine ⟨by omega, fun y hy hyi => ?_⟩
      have hxi : x.id = id := by simpa [hasO] using hp
      obtain ⟨j, hj⟩ := List.getElem?_of_mem hy
      obtain ⟨hlt, hxe⟩ := List.getElem?_eq_some_iff.1 hx
      obtain ⟨hjl, hye⟩ := List.getElem?_eq_some_iff.1 hj
      rcases Nat.lt_trichotomy i j with h' | h' | h'
      · have := List.pairwise_iff_getElem.1 h.id i j hlt hjl h'
        rw [hxe, hye] at this; omega
      · subst h'; rw [hxe] at hye; rw [← hye]; omega
      · have := List.pairwise_iff_getElem.1 h.id j i hjl hlt h'
        rw [hxe, hye] at this; omega
  have k : ∀ x : Order, (lf id left x).id = x.id ∧ (lf id left x).seq = x.seq := fun x => by unfold lf; split <;> exact ⟨rfl, rfl⟩
  refine ⟨?_, ?_, ?_, by simpa using h.len⟩
  · unfold uqSeq; rw [List.pairwise_map]; exact h.seq.imp (fun {a b} hab => by rw [(k a).2, (k b).2]; exact hab)
  · rw [List.pairwise_map]; exact h.id.imp (fun {a b} hab => by rw [(k a).1, (k b).1]; exact hab)
  · intro o ho
    obtain ⟨x, hx, rfl⟩ := List.mem_map.1 ho
    have hok := h.ok x hx
    have hl := h.left x hx
    unfold lf
    split
    · rename_i hxi
      have := hq.2 x hx hxi
      simp only [okO, Bool.and_eq_true, decide_eq_true_eq] at hok ⊢
      obtain ⟨⟨⟨⟨⟨⟨⟨a1, a2⟩, a3⟩, a4⟩, a5⟩, a6⟩, a7⟩, a8⟩ := hok
      exact ⟨⟨⟨⟨⟨⟨⟨a1, a2⟩, a3⟩, a4⟩, hq.1⟩, by omega⟩, a7⟩, a8⟩
    · exact hok

theorem eqO_same (y : Order) : eqSt TT 29 y.enc.toArray y.enc.toArray = some true := by
  have h : eqSt TT 29 y.enc.toArray y.enc.toArray = some (y.id == y.id && (y.seq == y.seq && (y.owner == y.owner && (y.side == y.side && (y.price == y.price && (y.left == y.left && true)))))) := rfl
  rw [h]; simp
theorem set_sameO {α : Type} {l : List α} {i : Nat} {x : α} (h : l[i]? = some x) : l.set i x = l := by
  obtain ⟨hlt, hxe⟩ := List.getElem?_eq_some_iff.1 h
  rw [← hxe]; simp
set_option maxHeartbeats 4000000 in
theorem book_LessLaw (W : World) (A0 : Option Addr) (c0 : Nat) (ls : List Order) (at_ left : Int) (hr0 : Reads W [] A0 ls.length 6 (ls.flatMap Order.enc)) :
    FSpec Try.prog W 5 [.slice A0 ls.length c0, .int .i64 at_, .int .i64 left] [] (fun v _ => v = .bool true) := by
  refine spec_body Try.func5 rfl rfl Try.results5 Try.ntmps5 rfl rfl ?_
  refine aw_reads hr0 (by rfl) (fun hA0 => ?_)
  by_cases h1 : ls.length < 1 ∨ ls.length > 40
  · repeat' (first
      | apply aw_seq | apply aw_region | apply aw_ret | apply aw_skip | apply aw_exit | apply aw_block | apply es_nil
      | (apply es_pure hT; (iterate 4 exact rfl)) | (apply es_skip; (iterate 3 exact rfl)) | (apply es_skip0; (iterate 2 exact rfl))
      | (apply es_i64 hT; (iterate 4 exact rfl); (iterate 2 omega))
      | (apply aw_draw [] [] hmix; decide +kernel)
      | (apply es_load; (iterate 5 exact rfl); first | exact ld_blk hT rfl rfl mem0 rfl rfl | exact ld_all hT rfl rfl mem0 rfl)
      | (apply es_load; (iterate 5 exact rfl); first | exact ld_blk hT rfl rfl mem1 rfl rfl | exact ld_all hT rfl rfl mem1 rfl)
      | (apply es_load; (iterate 5 exact rfl); first | exact ld_blk hT rfl rfl mem2 rfl rfl | exact ld_all hT rfl rfl mem2 rfl)
      | (apply es_box; (iterate 5 exact rfl); intro _) | (apply es_alloc hT; (iterate 5 exact rfl); intro _)
      | (apply aw_condT; (iterate 2 exact rfl)) | (apply aw_condF; (iterate 2 exact rfl))
      | (apply es_case; exact rfl; all_goals intro hb; all_goals (try simp only [hb]); all_goals (first | replace hb := of_decide_eq_true hb | replace hb := of_decide_eq_false hb | replace hb := bne_t hb | replace hb := bne_f hb | skip); all_goals (try (exfalso; omega)))
      | (apply aw_cond; exact rfl; all_goals intro hb; all_goals (try simp only [hb]); all_goals (first | replace hb := of_decide_eq_true hb | replace hb := of_decide_eq_false hb | replace hb := bne_t hb | replace hb := bne_f hb | skip); all_goals (try (exfalso; omega))))
    all_goals first
      | (exfalso; omega)
      | (apply ret1; exact rfl; exact rfl)
  have q1 : decide (((ls.length : Nat) : Int) < 1) = false := by simp; omega
  have q2 : decide (((ls.length : Nat) : Int) > 40) = false := by simp; omega
  repeat' (first
    | apply aw_seq | apply aw_region | apply aw_ret | apply aw_skip | apply aw_exit | apply aw_block | apply es_nil
    | (apply es_pure hT; (iterate 4 exact rfl)) | (apply es_skip; (iterate 3 exact rfl)) | (apply es_skip0; (iterate 2 exact rfl))
    | (apply es_i64 hT; (iterate 4 exact rfl); (iterate 2 omega))
    | (apply aw_draw [] [] hmix; decide +kernel)
    | (apply es_call (hs := (book_New W _)); (iterate 7 exact rfl); rintro _ _ ⟨p, A, c, rfl, rfl⟩)
    | (apply es_load; (iterate 5 exact rfl); first | exact ld_blk hT rfl rfl mem0 rfl rfl | exact ld_all hT rfl rfl mem0 rfl)
    | (apply es_load; (iterate 5 exact rfl); first | exact ld_blk hT rfl rfl mem1 rfl rfl | exact ld_all hT rfl rfl mem1 rfl)
    | (apply es_load; (iterate 5 exact rfl); first | exact ld_blk hT rfl rfl mem2 rfl rfl | exact ld_all hT rfl rfl mem2 rfl)
    | (apply es_box; (iterate 5 exact rfl); intro _) | (apply es_alloc hT; (iterate 5 exact rfl); intro _)
    | (apply aw_condT; (iterate 2 exact rfl)) | (apply aw_condF; (iterate 2 exact rfl))
    | (apply es_case; exact rfl; all_goals intro hb; all_goals (try simp only [hb]); all_goals (first | replace hb := of_decide_eq_true hb | replace hb := of_decide_eq_false hb | replace hb := bne_t hb | replace hb := bne_f hb | skip); all_goals (try (exfalso; omega)))
    | (apply aw_cond; exact rfl; all_goals intro hb; all_goals (try simp only [hb]); all_goals (first | replace hb := of_decide_eq_true hb | replace hb := of_decide_eq_false hb | replace hb := bne_t hb | replace hb := bne_f hb | skip); all_goals (try (exfalso; omega))))
  all_goals try (exfalso; omega)
  refine aw_loop (α := Nat × List Order × Option Addr × Nat) (E := fun x => [(0, .slice A0 ls.length c0), (1, .int .i64 at_), (2, .int .i64 left), (7, .pointer (some ⟨p, 0, none⟩)), (8, .int .i64 x.1)]) (H := fun x => bookTab p x.2.2.1 x.2.2.2 x.2.1 []) (μ := fun x => ls.length - x.1)
    (S := fun x => x.1 ≤ ls.length ∧ BookB x.2.1) (0, [], A, c) (J := []) ⟨Nat.zero_le _, BookB.nil⟩ ⟨rfl, rfl, rfl, rfl, rfl, trivial⟩ (List.Perm.refl _) ?_
  rintro ⟨k, l, A1, c1⟩ ⟨hk, hB⟩
  dsimp only at hk hB ⊢
  by_cases hlt : k < ls.length
  · obtain ⟨x, hx⟩ : ∃ x, ls[k]? = some x := ⟨ls[k]'(by omega), List.getElem?_eq_getElem (by omega)⟩
    have hx2 : ls[(k : Int).toNat]? = some x := by simpa using hx
    have hA := hA0 (by omega)
    have hd1 : decide ((k : Int) < (ls.length : Int)) = true := by simp; omega
    have hadd := book_Add W [] p A1 c1 l x hB.le
    repeat' (first
      | apply aw_seq | apply aw_region | apply aw_ret | apply aw_skip | apply aw_exit | apply aw_block | apply es_nil
      | (apply es_pure hT; (iterate 4 exact rfl)) | (apply es_skip; (iterate 3 exact rfl)) | (apply es_skip0; (iterate 2 exact rfl))
      | (apply es_i64 hT; (iterate 4 exact rfl); (iterate 2 omega))
      | (apply aw_draw [] [] hmix; decide +kernel)
      | (apply es_idx hT; (iterate 8 exact rfl); (iterate 2 omega); exact hA)
      | (apply es_load; (iterate 5 exact rfl); exact ld_elem hT rfl rfl (hr0.mono (by simp)) Order.enc_len rfl hx2 rfl)
      | (apply es_call (hs := hadd); (iterate 7 exact rfl); rintro _ _ ⟨rfl, A2, c2, rfl⟩)
      | (apply es_load; (iterate 5 exact rfl); first | exact ld_blk hT rfl rfl mem0 rfl rfl | exact ld_all hT rfl rfl mem0 rfl)
      | (apply es_load; (iterate 5 exact rfl); first | exact ld_blk hT rfl rfl mem1 rfl rfl | exact ld_all hT rfl rfl mem1 rfl)
      | (apply es_load; (iterate 5 exact rfl); first | exact ld_blk hT rfl rfl mem2 rfl rfl | exact ld_all hT rfl rfl mem2 rfl)
      | (apply es_box; (iterate 5 exact rfl); intro _) | (apply es_alloc hT; (iterate 5 exact rfl); intro _)
      | (apply aw_condT; (iterate 2 exact rfl)) | (apply aw_condF; (iterate 2 exact rfl))
      | (apply es_case; exact rfl; all_goals intro hb; all_goals (try simp only [hb]); all_goals (first | replace hb := of_decide_eq_true hb | replace hb := of_decide_eq_false hb | replace hb := bne_t hb | replace hb := bne_f hb | skip); all_goals (try (exfalso; omega)))
      | (apply aw_cond; exact rfl; all_goals intro hb; all_goals (try simp only [hb]); all_goals (first | replace hb := of_decide_eq_true hb | replace hb := of_decide_eq_false hb | replace hb := bne_t hb | replace hb := bne_f hb | skip); all_goals (try (exfalso; omega))))
    exact loopq_end (k + 1, addO x l, A2, c2) (by dsimp only; omega) ⟨by dsimp only; omega, hB.add x⟩ ⟨rfl, rfl, rfl, rfl, rfl, trivial⟩ dt_end
  · obtain rfl : k = ls.length := by omega
    have hd1 : decide ((ls.length : Int) < (ls.length : Int)) = false := by simp
    have hA := hA0 (by omega)
    have hel : ∀ n, n < ls.length → ls[n]? = some (ls.getD n zeroO) := fun n hn => by simp [List.getD, hn]
    have hel2 : ∀ m : Nat, ls[((m : Int) % (ls.length : Int)).toNat]? = some (ls.getD ((m : Int) % (ls.length : Int)).toNat zeroO) := fun m => hel _ (by
      have h2 := Int.emod_nonneg (m : Int) (show (ls.length : Int) ≠ 0 by omega)
      have h3 := Int.emod_lt_of_pos (m : Int) (show (0 : Int) < ls.length by omega)
      omega)
    have hkn := book_known W
    have hbl := hB.len
    have hgetA : ∀ id F, QSpec Try.prog W 33 [.pointer (some ⟨p, 0, none⟩), .int .i64 id] (bookTab p A1 c1 l F) (gotO (getO id l)) := fun id F => (book_Get W p A1 c1 l id hB.le).mono (memPairB mem0 mem1)
    repeat' (first
      | apply aw_seq | apply aw_region | apply aw_ret | apply aw_skip | apply aw_exit | apply aw_block | apply es_nil
      | (apply es_pure hT; (iterate 4 exact rfl)) | (apply es_skip; (iterate 3 exact rfl)) | (apply es_skip0; (iterate 2 exact rfl))
      | (apply es_i64 hT; (iterate 4 exact rfl); (iterate 2 omega))
      | (apply aw_draw [] [] hmix; decide +kernel)
      | (apply es_mask (m := 65535); (iterate 5 exact rfl); omega; intro m hm)
      | (apply es_rem; (iterate 5 exact rfl); (iterate 2 omega))
      | (apply es_idx hT; (iterate 8 exact rfl); exact Int.emod_nonneg _ (by omega); exact Int.emod_lt_of_pos _ (by omega); exact hA)
      | (apply es_load; (iterate 5 exact rfl); exact ld_elem hT rfl rfl (hr0.mono (by simp)) Order.enc_len rfl (hel2 _) rfl)
      | (apply es_alloc hT; (iterate 5 exact rfl); intro g9)
      | (apply es_store hT; (iterate 6 exact rfl); exact sel0; (iterate 3 exact rfl); exact Nat.le_of_ble_eq_true rfl)
      | (apply es_load; (iterate 5 exact rfl); first | exact ld_blk hT rfl rfl mem0 rfl rfl | exact ld_all hT rfl rfl mem0 rfl)
      | (apply es_load; (iterate 5 exact rfl); first | exact ld_blk hT rfl rfl mem1 rfl rfl | exact ld_all hT rfl rfl mem1 rfl)
      | (apply es_load; (iterate 5 exact rfl); first | exact ld_blk hT rfl rfl mem2 rfl rfl | exact ld_all hT rfl rfl mem2 rfl)
      | (apply es_box; (iterate 5 exact rfl); intro _) | (apply es_alloc hT; (iterate 5 exact rfl); intro _)
      | (apply aw_condT; (iterate 2 exact rfl)) | (apply aw_condF; (iterate 2 exact rfl))
      | (apply es_case; exact rfl; all_goals intro hb; all_goals (try simp only [hb]); all_goals (first | replace hb := of_decide_eq_true hb | replace hb := of_decide_eq_false hb | replace hb := bne_t hb | replace hb := bne_f hb | skip); all_goals (try (exfalso; omega)))
      | (apply aw_cond; exact rfl; all_goals intro hb; all_goals (try simp only [hb]); all_goals (first | replace hb := of_decide_eq_true hb | replace hb := of_decide_eq_false hb | replace hb := bne_t hb | replace hb := bne_f hb | skip); all_goals (try (exfalso; omega))))
    generalize ls.getD _ zeroO = o
    have hget := hgetA o.id
    cases hg : getO o.id l with
    | none =>
      rw [hg] at hget
      dsimp only [gotO] at hget
      have hE : lessE o.id left l = 4 := by simp [lessE, hg]
      have hless := fun X Y => (book_Less W [X, Y] p A1 c1 l o.id left hB.le).perm (h' := X :: Y :: bookTab p A1 c1 l []) ((selS (selS sel0)).trans ((selS (selS sel0)).cons _))
      rw [hE] at hless
      repeat' (first
        | apply aw_seq | apply aw_region | apply aw_ret | apply aw_skip | apply aw_exit | apply aw_block | apply es_nil
        | (apply es_pure hT; (iterate 4 exact rfl)) | (apply es_skip; (iterate 3 exact rfl)) | (apply es_skip0; (iterate 2 exact rfl))
        | (apply es_i64 hT; (iterate 4 exact rfl); (iterate 2 omega))
        | (apply aw_draw [] [] hmix; decide +kernel)
        | (apply es_callQ (hs := ((hget []).mono (memPairB mem1 mem2))); (iterate 7 exact rfl))
        | (apply es_alloc hT; (iterate 5 exact rfl); intro g10)
        | (apply es_store hT; (iterate 6 exact rfl); exact sel0; (iterate 3 exact rfl); exact Nat.le_of_ble_eq_true rfl)
        | (apply es_call (hs := (hless _ _)); (iterate 7 exact rfl); rintro _ _ ⟨rfl, rfl⟩)
        | (apply es_callQ (hs := (hkn.mono (by simp))); (iterate 7 exact rfl))
        | (apply es_load; (iterate 5 exact rfl); first | exact ld_blk hT rfl rfl mem0 rfl rfl | exact ld_all hT rfl rfl mem0 rfl)
        | (apply es_load; (iterate 5 exact rfl); first | exact ld_blk hT rfl rfl mem1 rfl rfl | exact ld_all hT rfl rfl mem1 rfl)
        | (apply es_load; (iterate 5 exact rfl); first | exact ld_blk hT rfl rfl mem2 rfl rfl | exact ld_all hT rfl rfl mem2 rfl)
        | (apply es_load; (iterate 5 exact rfl); first | exact ld_blk hT rfl rfl mem0 rfl rfl | exact ld_all hT rfl rfl mem0 rfl)
        | (apply es_load; (iterate 5 exact rfl); first | exact ld_blk hT rfl rfl (List.mem_cons_of_mem _ mem0) rfl rfl | exact ld_all hT rfl rfl (List.mem_cons_of_mem _ mem0) rfl)
        | (apply es_load; (iterate 5 exact rfl); first | exact ld_blk hT rfl rfl mem1 rfl rfl | exact ld_all hT rfl rfl mem1 rfl)
        | (apply es_load; (iterate 5 exact rfl); first | exact ld_blk hT rfl rfl (List.mem_cons_of_mem _ mem1) rfl rfl | exact ld_all hT rfl rfl (List.mem_cons_of_mem _ mem1) rfl)
        | (apply es_box; (iterate 5 exact rfl); intro _) | (apply es_alloc hT; (iterate 5 exact rfl); intro _)
        | (apply aw_condT; (iterate 2 exact rfl)) | (apply aw_condF; (iterate 2 exact rfl))
        | (apply es_case; exact rfl; all_goals intro hb; all_goals (try simp only [hb]); all_goals (first | replace hb := of_decide_eq_true hb | replace hb := of_decide_eq_false hb | replace hb := bne_t hb | replace hb := bne_f hb | skip); all_goals (try (exfalso; omega)))
        | (apply aw_cond; exact rfl; all_goals intro hb; all_goals (try simp only [hb]); all_goals (first | replace hb := of_decide_eq_true hb | replace hb := of_decide_eq_false hb | replace hb := bne_t hb | replace hb := bne_f hb | skip); all_goals (try (exfalso; omega))))
      apply ret1; exact rfl; exact rfl
    | some w =>
      rw [hg] at hget
      dsimp only [gotO] at hget
      have hS := fun h m1 m2 => book_Side W h p A1 c1 l w.side m1 m2 hB.le hB.seq hB.side
      have hless := fun X Y Z => (book_Less W [X, Y, Z] p A1 c1 l o.id left hB.le).perm (h' := X :: Y :: Z :: bookTab p A1 c1 l []) ((selS (selS (selS sel0))).trans ((selS (selS (selS sel0))).cons _))
      have hsl := sideO_len w.side l
      by_cases hE : lessE o.id left l = 0
      · have hB2 := hB.less hE
        have hS2 := fun h m1 m2 => book_Side W h p A1 c1 (lessO o.id left l) w.side m1 m2 hB2.le hB2.seq hB2.side
        have hmap : sideO w.side (lessO o.id left l) = (sideO w.side l).map (lf o.id left) := by rw [lessO_map hB.id hE, sideO_map]
        rw [hmap] at hS2
        have hlw : ¬ (left < 1 ∨ left > w.left) := fun hh => by simp [lessE, hg, hh] at hE
        rw [hE] at hless
        generalize lessO o.id left l = l2 at hless hS2
        generalize sideO w.side l = sm at hS hS2 hsl
        rw [List.length_map] at hS2
        repeat' (first
          | apply aw_seq | apply aw_region | apply aw_ret | apply aw_skip | apply aw_exit | apply aw_block | apply es_nil
          | (apply es_pure hT; (iterate 4 exact rfl)) | (apply es_skip; (iterate 3 exact rfl)) | (apply es_skip0; (iterate 2 exact rfl))
          | (apply es_i64 hT; (iterate 4 exact rfl); (iterate 2 omega))
          | (apply aw_draw [] [] hmix; decide +kernel)
          | (apply es_callQ (hs := ((hget []).mono (memPairB mem1 mem2))); (iterate 7 exact rfl))
          | (apply es_alloc hT; (iterate 5 exact rfl); intro g10)
          | (apply es_store hT; (iterate 6 exact rfl); exact sel0; (iterate 3 exact rfl); exact Nat.le_of_ble_eq_true rfl)
          | (apply es_call (hs := (hS _ mem2 mem3)); (iterate 7 exact rfl); rintro _ _ ⟨AS, cS, rfl, rfl, hfS⟩)
          | (apply es_call (hs := (hless _ _ _)); (iterate 7 exact rfl); rintro _ _ ⟨rfl, rfl⟩)
          | (apply es_call (hs := (hS2 _ mem0 mem1)); (iterate 7 exact rfl); rintro _ _ ⟨AN, cN, rfl, rfl, hfN⟩)
          | (apply es_load; (iterate 5 exact rfl); first | exact ld_blk hT rfl rfl mem0 rfl rfl | exact ld_all hT rfl rfl mem0 rfl)
          | (apply es_load; (iterate 5 exact rfl); first | exact ld_blk hT rfl rfl mem1 rfl rfl | exact ld_all hT rfl rfl mem1 rfl)
          | (apply es_load; (iterate 5 exact rfl); first | exact ld_blk hT rfl rfl mem2 rfl rfl | exact ld_all hT rfl rfl mem2 rfl)
          | (apply es_load; (iterate 5 exact rfl); first | exact ld_blk hT rfl rfl mem0 rfl rfl | exact ld_all hT rfl rfl mem0 rfl)
          | (apply es_load; (iterate 5 exact rfl); first | exact ld_blk hT rfl rfl (List.mem_cons_of_mem _ mem0) rfl rfl | exact ld_all hT rfl rfl (List.mem_cons_of_mem _ mem0) rfl)
          | (apply es_load; (iterate 5 exact rfl); first | exact ld_blk hT rfl rfl (List.mem_cons_of_mem _ (List.mem_cons_of_mem _ mem0)) rfl rfl | exact ld_all hT rfl rfl (List.mem_cons_of_mem _ (List.mem_cons_of_mem _ mem0)) rfl)
          | (apply es_load; (iterate 5 exact rfl); first | exact ld_blk hT rfl rfl (List.mem_cons_of_mem _ (List.mem_cons_of_mem _ (List.mem_cons_of_mem _ mem0))) rfl rfl | exact ld_all hT rfl rfl (List.mem_cons_of_mem _ (List.mem_cons_of_mem _ (List.mem_cons_of_mem _ mem0))) rfl)
          | (apply es_load; (iterate 5 exact rfl); first | exact ld_blk hT rfl rfl mem1 rfl rfl | exact ld_all hT rfl rfl mem1 rfl)
          | (apply es_load; (iterate 5 exact rfl); first | exact ld_blk hT rfl rfl (List.mem_cons_of_mem _ mem1) rfl rfl | exact ld_all hT rfl rfl (List.mem_cons_of_mem _ mem1) rfl)
          | (apply es_load; (iterate 5 exact rfl); first | exact ld_blk hT rfl rfl (List.mem_cons_of_mem _ (List.mem_cons_of_mem _ mem1)) rfl rfl | exact ld_all hT rfl rfl (List.mem_cons_of_mem _ (List.mem_cons_of_mem _ mem1)) rfl)
          | (apply es_load; (iterate 5 exact rfl); first | exact ld_blk hT rfl rfl (List.mem_cons_of_mem _ (List.mem_cons_of_mem _ (List.mem_cons_of_mem _ mem1))) rfl rfl | exact ld_all hT rfl rfl (List.mem_cons_of_mem _ (List.mem_cons_of_mem _ (List.mem_cons_of_mem _ mem1))) rfl)
          | (apply es_box; (iterate 5 exact rfl); intro _) | (apply es_alloc hT; (iterate 5 exact rfl); intro _)
          | (apply aw_condT; (iterate 2 exact rfl)) | (apply aw_condF; (iterate 2 exact rfl))
          | (apply es_case; exact rfl; all_goals intro hb; all_goals (try simp only [hb]); all_goals (first | replace hb := of_decide_eq_true hb | replace hb := of_decide_eq_false hb | replace hb := bne_t hb | replace hb := bne_f hb | skip); all_goals (try (exfalso; omega)))
          | (apply aw_cond; exact rfl; all_goals intro hb; all_goals (try simp only [hb]); all_goals (first | replace hb := of_decide_eq_true hb | replace hb := of_decide_eq_false hb | replace hb := bne_t hb | replace hb := bne_f hb | skip); all_goals (try (exfalso; omega))))
        all_goals try (exfalso; omega)
        all_goals try (exfalso; simp_all; done)
        have hfl : ∀ m : List Order, m.length = sm.length → OwnF AS sm.length cS 6 (m.flatMap Order.enc) := fun m hm => ⟨by rw [flat_len Order.enc_len, hm], hfS.nc, hfS.cc, hfS.some_, hfS.at_, hfS.none_, fun v hv => by obtain ⟨y, _, hy⟩ := List.mem_flatMap.1 hv; exact Order.enc_one y v hy⟩
        refine aw_loop (α := Nat) (E := fun i => [(2, .int .i64 left), (9, .pointer (some ⟨g9, 0, none⟩)), (12, .slice AS sm.length cS), (13, .int .i64 0), (14, .slice AN sm.length cN), (15, .int .i64 i)])
          (H := fun i => .own AN sm.length cN 29 6 ((sm.map (lf o.id left)).flatMap Order.enc) :: .own AS sm.length cS 29 6 ((upto (lf o.id left) sm i).flatMap Order.enc) :: .blk g9 29 o.enc :: []) (μ := fun i => sm.length - i)
          (S := fun i => i ≤ sm.length) 0 (J := [_, _, _]) (Nat.zero_le _) ⟨rfl, rfl, rfl, rfl, rfl, rfl, trivial⟩ (sel1.trans ((sel1.trans ((selS (selS sel0)).cons _)).cons _)) ?_
        intro i hi
        by_cases hil : i < sm.length
        · obtain ⟨x, hx⟩ : ∃ x, sm[i]? = some x := ⟨sm[i]'(by omega), List.getElem?_eq_getElem (by omega)⟩
          have hAS := hfS.some_ (by omega)
          have hAN := hfN.some_ (by omega)
          have hd2 : decide ((i : Int) < (sm.length : Int)) = true := by simp; omega
          have hnx : (sm.map (lf o.id left))[(i : Int).toNat]? = some (lf o.id left x) := by simp [hx]
          have hux : (upto (lf o.id left) sm i)[(i : Int).toNat]? = some x := by simpa using upto_at (f := lf o.id left) hx
          have hfu := hfl (upto (lf o.id left) sm i) (upto_len _ _ _)
          by_cases hxi : x.id = o.id
          · have hfx : lf o.id left x = { x with left := left } := by simp [lf, hxi]
            have hlay : lay ((upto (lf o.id left) sm i).flatMap Order.enc) ((i : Int).toNat * 6 + 5) [.int .i64 left] = (upto (lf o.id left) sm (i + 1)).flatMap Order.enc := by
              rw [Int.toNat_natCast, flat_lay Order.enc_len (x' := { x with left := left }) (upto_at hx) (Nat.le_of_ble_eq_true rfl) rfl, ← hfx, upto_set hx]
            have hrd : ∀ h, Chunk.own AS sm.length cS 29 6 (lay ((upto (lf o.id left) sm i).flatMap Order.enc) ((i : Int).toNat * 6 + 5) [.int .i64 left]) ∈ h → Reads W h AS sm.length 6 ((upto (lf o.id left) sm (i + 1)).flatMap Order.enc) := fun h m => by
              rw [hlay] at m
              exact (hfl (upto (lf o.id left) sm (i + 1)) (upto_len _ _ _)).reads m
            have hux2 : (upto (lf o.id left) sm (i + 1))[(i : Int).toNat]? = some (lf o.id left x) := by
              rw [← upto_set hx, Int.toNat_natCast, List.getElem?_set_self (by rw [upto_len]; exact hil)]
            repeat' (first
              | apply aw_seq | apply aw_region | apply aw_ret | apply aw_skip | apply aw_exit | apply aw_block | apply es_nil
              | (apply es_pure hT; (iterate 4 exact rfl)) | (apply es_skip; (iterate 3 exact rfl)) | (apply es_skip0; (iterate 2 exact rfl))
              | (apply es_i64 hT; (iterate 4 exact rfl); (iterate 2 omega))
              | (apply aw_draw [] [] hmix; decide +kernel)
              | (apply es_idx hT; (iterate 8 exact rfl); (iterate 2 omega); first | exact hAS | exact hAN)
              | (apply es_load; (iterate 5 exact rfl); first | exact ld_fld hT rfl rfl (hfu.reads mem1) Order.enc_len (adr_add _ _ _) hux (by decide) rfl | exact ld_elem hT rfl rfl (hfN.reads mem1) Order.enc_len rfl hnx rfl | exact ld_elem hT rfl rfl (hrd _ mem0) Order.enc_len rfl hux2 rfl)
              | (apply es_storeRow hT; (iterate 6 exact rfl); exact sel1; exact adr_add _ _ _; exact rfl; exact rfl; (show ((i : Int).toNat * 6 + 5) + 1 ≤ sm.length * 6; omega); omega)
              | (apply es_neS hT; (iterate 5 exact rfl); exact eqO_same _; exact sOKOrder)
              | (apply es_load; (iterate 5 exact rfl); first | exact ld_blk hT rfl rfl mem0 rfl rfl | exact ld_all hT rfl rfl mem0 rfl)
              | (apply es_load; (iterate 5 exact rfl); first | exact ld_blk hT rfl rfl mem1 rfl rfl | exact ld_all hT rfl rfl mem1 rfl)
              | (apply es_load; (iterate 5 exact rfl); first | exact ld_blk hT rfl rfl mem2 rfl rfl | exact ld_all hT rfl rfl mem2 rfl)
              | (apply es_load; (iterate 5 exact rfl); first | exact ld_blk hT rfl rfl mem2 rfl rfl | exact ld_all hT rfl rfl mem2 rfl)
              | (apply es_load; (iterate 5 exact rfl); first | exact ld_blk hT rfl rfl (List.mem_cons_of_mem _ mem2) rfl rfl | exact ld_all hT rfl rfl (List.mem_cons_of_mem _ mem2) rfl)
              | (apply es_box; (iterate 5 exact rfl); intro _) | (apply es_alloc hT; (iterate 5 exact rfl); intro _)
              | (apply aw_condT; (iterate 2 exact rfl)) | (apply aw_condF; (iterate 2 exact rfl))
              | (apply es_case; exact rfl; all_goals intro hb; all_goals (try simp only [hb]); all_goals (first | replace hb := of_decide_eq_true hb | replace hb := of_decide_eq_false hb | replace hb := bne_t hb | replace hb := bne_f hb | skip); all_goals (try (exfalso; omega)))
              | (apply aw_cond; exact rfl; all_goals intro hb; all_goals (try simp only [hb]); all_goals (first | replace hb := of_decide_eq_true hb | replace hb := of_decide_eq_false hb | replace hb := bne_t hb | replace hb := bne_f hb | skip); all_goals (try (exfalso; omega))))
            all_goals first
              | (exfalso; omega)
              | (refine loopq_end (i + 1) (by (try dsimp only); omega) (by (try dsimp only); omega) ⟨rfl, rfl, rfl, rfl, rfl, rfl, trivial⟩ ?_
                 (try dsimp only)
                 rw [← hlay]
                 apply dt_cons; (first | exact sel0 | exact sel1 | exact selS sel1 | exact selS (selS sel1) | exact selS (selS (selS sel1)) | exact selS (selS (selS (selS sel1))) | exact selS (selS (selS (selS (selS sel1)))) | exact selS (selS (selS (selS (selS (selS sel1))))))
                 apply dt_cons; (first | exact sel0 | exact sel1 | exact selS sel1 | exact selS (selS sel1) | exact selS (selS (selS sel1)) | exact selS (selS (selS (selS sel1))) | exact selS (selS (selS (selS (selS sel1)))) | exact selS (selS (selS (selS (selS (selS sel1))))))
                 exact dt_end)
              | (exfalso; simp_all; done)
          · have hfx : lf o.id left x = x := by simp [lf, hxi]
            have hsame : upto (lf o.id left) sm (i + 1) = upto (lf o.id left) sm i := by rw [← upto_set hx, hfx, set_sameO (upto_at hx)]
            rw [hfx] at hnx
            repeat' (first
              | apply aw_seq | apply aw_region | apply aw_ret | apply aw_skip | apply aw_exit | apply aw_block | apply es_nil
              | (apply es_pure hT; (iterate 4 exact rfl)) | (apply es_skip; (iterate 3 exact rfl)) | (apply es_skip0; (iterate 2 exact rfl))
              | (apply es_i64 hT; (iterate 4 exact rfl); (iterate 2 omega))
              | (apply aw_draw [] [] hmix; decide +kernel)
              | (apply es_idx hT; (iterate 8 exact rfl); (iterate 2 omega); first | exact hAS | exact hAN)
              | (apply es_load; (iterate 5 exact rfl); first | exact ld_fld hT rfl rfl (hfu.reads mem1) Order.enc_len (adr_add _ _ _) hux (by decide) rfl | exact ld_elem hT rfl rfl (hfN.reads mem0) Order.enc_len rfl hnx rfl | exact ld_elem hT rfl rfl (hfu.reads mem1) Order.enc_len rfl hux rfl)
              | (apply es_neS hT; (iterate 5 exact rfl); exact eqO_same _; exact sOKOrder)
              | (apply es_load; (iterate 5 exact rfl); first | exact ld_blk hT rfl rfl mem0 rfl rfl | exact ld_all hT rfl rfl mem0 rfl)
              | (apply es_load; (iterate 5 exact rfl); first | exact ld_blk hT rfl rfl mem1 rfl rfl | exact ld_all hT rfl rfl mem1 rfl)
              | (apply es_load; (iterate 5 exact rfl); first | exact ld_blk hT rfl rfl mem2 rfl rfl | exact ld_all hT rfl rfl mem2 rfl)
              | (apply es_load; (iterate 5 exact rfl); first | exact ld_blk hT rfl rfl mem2 rfl rfl | exact ld_all hT rfl rfl mem2 rfl)
              | (apply es_load; (iterate 5 exact rfl); first | exact ld_blk hT rfl rfl (List.mem_cons_of_mem _ mem2) rfl rfl | exact ld_all hT rfl rfl (List.mem_cons_of_mem _ mem2) rfl)
              | (apply es_box; (iterate 5 exact rfl); intro _) | (apply es_alloc hT; (iterate 5 exact rfl); intro _)
              | (apply aw_condT; (iterate 2 exact rfl)) | (apply aw_condF; (iterate 2 exact rfl))
              | (apply es_case; exact rfl; all_goals intro hb; all_goals (try simp only [hb]); all_goals (first | replace hb := of_decide_eq_true hb | replace hb := of_decide_eq_false hb | replace hb := bne_t hb | replace hb := bne_f hb | skip); all_goals (try (exfalso; omega)))
              | (apply aw_cond; exact rfl; all_goals intro hb; all_goals (try simp only [hb]); all_goals (first | replace hb := of_decide_eq_true hb | replace hb := of_decide_eq_false hb | replace hb := bne_t hb | replace hb := bne_f hb | skip); all_goals (try (exfalso; omega))))
            all_goals first
              | (exfalso; omega)
              | (refine loopq_end (i + 1) (by (try dsimp only); omega) (by (try dsimp only); omega) ⟨rfl, rfl, rfl, rfl, rfl, rfl, trivial⟩ ?_
                 (try dsimp only)
                 rw [hsame]
                 exact dt_end)
              | (exfalso; simp_all; done)
        · obtain rfl : i = sm.length := by omega
          have hd2 : decide ((sm.length : Int) < (sm.length : Int)) = false := by simp
          repeat' (first
            | apply aw_seq | apply aw_region | apply aw_ret | apply aw_skip | apply aw_exit | apply aw_block | apply es_nil
            | (apply es_pure hT; (iterate 4 exact rfl)) | (apply es_skip; (iterate 3 exact rfl)) | (apply es_skip0; (iterate 2 exact rfl))
            | (apply es_i64 hT; (iterate 4 exact rfl); (iterate 2 omega))
            | (apply aw_draw [] [] hmix; decide +kernel)
            | (apply es_callQ (hs := (hkn.mono (by simp))); (iterate 7 exact rfl))
            | (apply es_load; (iterate 5 exact rfl); first | exact ld_blk hT rfl rfl mem0 rfl rfl | exact ld_all hT rfl rfl mem0 rfl)
            | (apply es_load; (iterate 5 exact rfl); first | exact ld_blk hT rfl rfl mem1 rfl rfl | exact ld_all hT rfl rfl mem1 rfl)
            | (apply es_load; (iterate 5 exact rfl); first | exact ld_blk hT rfl rfl mem2 rfl rfl | exact ld_all hT rfl rfl mem2 rfl)
            | (apply es_box; (iterate 5 exact rfl); intro _) | (apply es_alloc hT; (iterate 5 exact rfl); intro _)
            | (apply aw_condT; (iterate 2 exact rfl)) | (apply aw_condF; (iterate 2 exact rfl))
            | (apply es_case; exact rfl; all_goals intro hb; all_goals (try simp only [hb]); all_goals (first | replace hb := of_decide_eq_true hb | replace hb := of_decide_eq_false hb | replace hb := bne_t hb | replace hb := bne_f hb | skip); all_goals (try (exfalso; omega)))
            | (apply aw_cond; exact rfl; all_goals intro hb; all_goals (try simp only [hb]); all_goals (first | replace hb := of_decide_eq_true hb | replace hb := of_decide_eq_false hb | replace hb := bne_t hb | replace hb := bne_f hb | skip); all_goals (try (exfalso; omega))))
          apply ret1; exact rfl; exact rfl
      · have hL := lessO_no hE
        have hlw : left < 1 ∨ left > w.left := by
          rcases Int.lt_or_le left 1 with h | h
          · exact .inl h
          · rcases Int.lt_or_le w.left left with h' | h'
            · exact .inr h'
            · exact absurd (by simp [lessE, hg]; omega) hE
        rw [hL] at hless
        generalize lessE o.id left l = e at hless hE
        generalize sideO w.side l = sm at hS hsl
        repeat' (first
          | apply aw_seq | apply aw_region | apply aw_ret | apply aw_skip | apply aw_exit | apply aw_block | apply es_nil
          | (apply es_pure hT; (iterate 4 exact rfl)) | (apply es_skip; (iterate 3 exact rfl)) | (apply es_skip0; (iterate 2 exact rfl))
          | (apply es_i64 hT; (iterate 4 exact rfl); (iterate 2 omega))
          | (apply aw_draw [] [] hmix; decide +kernel)
          | (apply es_callQ (hs := ((hget []).mono (memPairB mem1 mem2))); (iterate 7 exact rfl))
          | (apply es_alloc hT; (iterate 5 exact rfl); intro g10)
          | (apply es_store hT; (iterate 6 exact rfl); exact sel0; (iterate 3 exact rfl); exact Nat.le_of_ble_eq_true rfl)
          | (apply es_call (hs := (hS _ mem2 mem3)); (iterate 7 exact rfl); rintro _ _ ⟨AS, cS, rfl, rfl, hfS⟩)
          | (apply es_call (hs := (hless _ _ _)); (iterate 7 exact rfl); rintro _ _ ⟨rfl, rfl⟩)
          | (apply es_call (hs := (hS _ mem0 mem1)); (iterate 7 exact rfl); rintro _ _ ⟨AN, cN, rfl, rfl, hfN⟩)
          | (apply es_load; (iterate 5 exact rfl); first | exact ld_blk hT rfl rfl mem0 rfl rfl | exact ld_all hT rfl rfl mem0 rfl)
          | (apply es_load; (iterate 5 exact rfl); first | exact ld_blk hT rfl rfl mem1 rfl rfl | exact ld_all hT rfl rfl mem1 rfl)
          | (apply es_load; (iterate 5 exact rfl); first | exact ld_blk hT rfl rfl mem2 rfl rfl | exact ld_all hT rfl rfl mem2 rfl)
          | (apply es_load; (iterate 5 exact rfl); first | exact ld_blk hT rfl rfl mem0 rfl rfl | exact ld_all hT rfl rfl mem0 rfl)
          | (apply es_load; (iterate 5 exact rfl); first | exact ld_blk hT rfl rfl (List.mem_cons_of_mem _ mem0) rfl rfl | exact ld_all hT rfl rfl (List.mem_cons_of_mem _ mem0) rfl)
          | (apply es_load; (iterate 5 exact rfl); first | exact ld_blk hT rfl rfl (List.mem_cons_of_mem _ (List.mem_cons_of_mem _ mem0)) rfl rfl | exact ld_all hT rfl rfl (List.mem_cons_of_mem _ (List.mem_cons_of_mem _ mem0)) rfl)
          | (apply es_load; (iterate 5 exact rfl); first | exact ld_blk hT rfl rfl (List.mem_cons_of_mem _ (List.mem_cons_of_mem _ (List.mem_cons_of_mem _ mem0))) rfl rfl | exact ld_all hT rfl rfl (List.mem_cons_of_mem _ (List.mem_cons_of_mem _ (List.mem_cons_of_mem _ mem0))) rfl)
          | (apply es_load; (iterate 5 exact rfl); first | exact ld_blk hT rfl rfl mem1 rfl rfl | exact ld_all hT rfl rfl mem1 rfl)
          | (apply es_load; (iterate 5 exact rfl); first | exact ld_blk hT rfl rfl (List.mem_cons_of_mem _ mem1) rfl rfl | exact ld_all hT rfl rfl (List.mem_cons_of_mem _ mem1) rfl)
          | (apply es_load; (iterate 5 exact rfl); first | exact ld_blk hT rfl rfl (List.mem_cons_of_mem _ (List.mem_cons_of_mem _ mem1)) rfl rfl | exact ld_all hT rfl rfl (List.mem_cons_of_mem _ (List.mem_cons_of_mem _ mem1)) rfl)
          | (apply es_load; (iterate 5 exact rfl); first | exact ld_blk hT rfl rfl (List.mem_cons_of_mem _ (List.mem_cons_of_mem _ (List.mem_cons_of_mem _ mem1))) rfl rfl | exact ld_all hT rfl rfl (List.mem_cons_of_mem _ (List.mem_cons_of_mem _ (List.mem_cons_of_mem _ mem1))) rfl)
          | (apply es_box; (iterate 5 exact rfl); intro _) | (apply es_alloc hT; (iterate 5 exact rfl); intro _)
          | (apply aw_condT; (iterate 2 exact rfl)) | (apply aw_condF; (iterate 2 exact rfl))
          | (apply es_case; exact rfl; all_goals intro hb; all_goals (try simp only [hb]); all_goals (first | replace hb := of_decide_eq_true hb | replace hb := of_decide_eq_false hb | replace hb := bne_t hb | replace hb := bne_f hb | skip); all_goals (try (exfalso; omega)))
          | (apply aw_cond; exact rfl; all_goals intro hb; all_goals (try simp only [hb]); all_goals (first | replace hb := of_decide_eq_true hb | replace hb := of_decide_eq_false hb | replace hb := bne_t hb | replace hb := bne_f hb | skip); all_goals (try (exfalso; omega))))
        all_goals try (exfalso; omega)
        all_goals try (exfalso; simp_all; done)
        all_goals try (exfalso; rw [show (e == 0) = false by simpa using hE, show decide (left ≤ w.left) = false by simp; omega] at hb; exact absurd hb (by decide))
        all_goals (
          refine aw_loop (α := Nat) (E := fun i => [(2, .int .i64 left), (9, .pointer (some ⟨g9, 0, none⟩)), (12, .slice AS sm.length cS), (13, .int .i64 e), (14, .slice AN sm.length cN), (15, .int .i64 i)])
            (H := fun i => .own AN sm.length cN 29 6 (sm.flatMap Order.enc) :: .own AS sm.length cS 29 6 (sm.flatMap Order.enc) :: .blk g9 29 o.enc :: []) (μ := fun i => sm.length - i)
            (S := fun i => i ≤ sm.length) 0 (J := [_, _, _]) (Nat.zero_le _) ⟨rfl, rfl, rfl, rfl, rfl, rfl, trivial⟩ (sel1.trans ((sel1.trans ((selS (selS sel0)).cons _)).cons _)) ?_
          intro i hi
          by_cases hil : i < sm.length
          · obtain ⟨x, hx⟩ : ∃ x, sm[i]? = some x := ⟨sm[i]'(by omega), List.getElem?_eq_getElem (by omega)⟩
            have hAS := hfS.some_ (by omega)
            have hAN := hfN.some_ (by omega)
            have hd2 : decide ((i : Int) < (sm.length : Int)) = true := by simp; omega
            have hd3 : (e == 0) = false := by simpa using hE
            have hnx : sm[(i : Int).toNat]? = some x := by simp [hx]
            repeat' (first
              | apply aw_seq | apply aw_region | apply aw_ret | apply aw_skip | apply aw_exit | apply aw_block | apply es_nil
              | (apply es_pure hT; (iterate 4 exact rfl)) | (apply es_skip; (iterate 3 exact rfl)) | (apply es_skip0; (iterate 2 exact rfl))
              | (apply es_i64 hT; (iterate 4 exact rfl); (iterate 2 omega))
              | (apply aw_draw [] [] hmix; decide +kernel)
              | (apply es_idx hT; (iterate 8 exact rfl); (iterate 2 omega); first | exact hAS | exact hAN)
              | (apply es_load; (iterate 5 exact rfl); first | exact ld_fld hT rfl rfl (hfS.reads mem1) Order.enc_len (adr_add _ _ _) hnx (by decide) rfl | exact ld_elem hT rfl rfl (hfN.reads mem0) Order.enc_len rfl hnx rfl | exact ld_elem hT rfl rfl (hfS.reads mem1) Order.enc_len rfl hnx rfl)
              | (apply es_neS hT; (iterate 5 exact rfl); exact eqO_same _; exact sOKOrder)
              | (apply es_load; (iterate 5 exact rfl); first | exact ld_blk hT rfl rfl mem0 rfl rfl | exact ld_all hT rfl rfl mem0 rfl)
              | (apply es_load; (iterate 5 exact rfl); first | exact ld_blk hT rfl rfl mem1 rfl rfl | exact ld_all hT rfl rfl mem1 rfl)
              | (apply es_load; (iterate 5 exact rfl); first | exact ld_blk hT rfl rfl mem2 rfl rfl | exact ld_all hT rfl rfl mem2 rfl)
              | (apply es_load; (iterate 5 exact rfl); first | exact ld_blk hT rfl rfl mem2 rfl rfl | exact ld_all hT rfl rfl mem2 rfl)
              | (apply es_load; (iterate 5 exact rfl); first | exact ld_blk hT rfl rfl (List.mem_cons_of_mem _ mem2) rfl rfl | exact ld_all hT rfl rfl (List.mem_cons_of_mem _ mem2) rfl)
              | (apply es_box; (iterate 5 exact rfl); intro _) | (apply es_alloc hT; (iterate 5 exact rfl); intro _)
              | (apply aw_condT; (iterate 2 exact rfl)) | (apply aw_condF; (iterate 2 exact rfl))
              | (apply es_case; exact rfl; all_goals intro hb; all_goals (try simp only [hb]); all_goals (first | replace hb := of_decide_eq_true hb | replace hb := of_decide_eq_false hb | replace hb := bne_t hb | replace hb := bne_f hb | skip); all_goals (try (exfalso; omega)))
              | (apply aw_cond; exact rfl; all_goals intro hb; all_goals (try simp only [hb]); all_goals (first | replace hb := of_decide_eq_true hb | replace hb := of_decide_eq_false hb | replace hb := bne_t hb | replace hb := bne_f hb | skip); all_goals (try (exfalso; omega))))
            all_goals first
              | (exfalso; omega)
              | exact loopq_end (i + 1) (by (try dsimp only); omega) (by (try dsimp only); omega) ⟨rfl, rfl, rfl, rfl, rfl, rfl, trivial⟩ dt_end
              | (exfalso; simp_all; done)
          · obtain rfl : i = sm.length := by omega
            have hd2 : decide ((sm.length : Int) < (sm.length : Int)) = false := by simp
            repeat' (first
              | apply aw_seq | apply aw_region | apply aw_ret | apply aw_skip | apply aw_exit | apply aw_block | apply es_nil
              | (apply es_pure hT; (iterate 4 exact rfl)) | (apply es_skip; (iterate 3 exact rfl)) | (apply es_skip0; (iterate 2 exact rfl))
              | (apply es_i64 hT; (iterate 4 exact rfl); (iterate 2 omega))
              | (apply aw_draw [] [] hmix; decide +kernel)
              | (apply es_callQ (hs := (hkn.mono (by simp))); (iterate 7 exact rfl))
              | (apply es_load; (iterate 5 exact rfl); first | exact ld_blk hT rfl rfl mem0 rfl rfl | exact ld_all hT rfl rfl mem0 rfl)
              | (apply es_load; (iterate 5 exact rfl); first | exact ld_blk hT rfl rfl mem1 rfl rfl | exact ld_all hT rfl rfl mem1 rfl)
              | (apply es_load; (iterate 5 exact rfl); first | exact ld_blk hT rfl rfl mem2 rfl rfl | exact ld_all hT rfl rfl mem2 rfl)
              | (apply es_box; (iterate 5 exact rfl); intro _) | (apply es_alloc hT; (iterate 5 exact rfl); intro _)
              | (apply aw_condT; (iterate 2 exact rfl)) | (apply aw_condF; (iterate 2 exact rfl))
              | (apply es_case; exact rfl; all_goals intro hb; all_goals (try simp only [hb]); all_goals (first | replace hb := of_decide_eq_true hb | replace hb := of_decide_eq_false hb | replace hb := bne_t hb | replace hb := bne_f hb | skip); all_goals (try (exfalso; omega)))
              | (apply aw_cond; exact rfl; all_goals intro hb; all_goals (try simp only [hb]); all_goals (first | replace hb := of_decide_eq_true hb | replace hb := of_decide_eq_false hb | replace hb := bne_t hb | replace hb := bne_f hb | skip); all_goals (try (exfalso; omega))))
            apply ret1; exact rfl; exact rfl)
end Go.Proofs.Ytiefkpfamkkapaa
