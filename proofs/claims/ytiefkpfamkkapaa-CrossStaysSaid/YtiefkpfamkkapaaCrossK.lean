/- What the statements of chapter 15 know by hand; rows of fills compared. Conditions stand in each statement. -/
import Derived.Test.YtiefkpfamkkapaaCrossB
set_option linter.unusedSimpArgs false
set_option linter.unusedVariables false
namespace Go.Proofs.Ytiefkpfamkkapaa
open Go Go.Sl
attribute [local irreducible] AW ES EP Ld RetQ
set_option maxRecDepth 100000

theorem sOKFill : structOK Try.prog 95 := ⟨by kernel_rfl, by kernel_rfl⟩
theorem sOKGone : structOK Try.prog 103 := ⟨by kernel_rfl, by kernel_rfl⟩
theorem eqF_same (y : FillR) : eqSt TT 95 y.enc.toArray y.enc.toArray = some true := by
  have h : eqSt TT 95 y.enc.toArray y.enc.toArray = some (y.maker == y.maker && (y.taker == y.taker && (y.mparty == y.mparty && (y.tparty == y.tparty && (y.price == y.price && (y.qty == y.qty && (y.left == y.left && true))))))) := rfl
  rw [h]; simp
theorem eqG_same (y : GoneR) : eqSt TT 103 y.enc.toArray y.enc.toArray = some true := by
  have h : eqSt TT 103 y.enc.toArray y.enc.toArray = some (y.id == y.id && (y.owner == y.owner && (y.left == y.left && true))) := rfl
  rw [h]; simp
theorem fills_two (W : World) (h : List Chunk) (A1 A2 : Option Addr) (c1 c2 : Nat) (l : List FillR) (h1 : OwnF A1 l.length c1 7 (l.flatMap FillR.enc)) (h2 : OwnF A2 l.length c2 7 (l.flatMap FillR.enc))
    (n1 : Chunk.own A1 l.length c1 95 7 (l.flatMap FillR.enc) ∈ h) (n2 : Chunk.own A2 l.length c2 95 7 (l.flatMap FillR.enc) ∈ h) (hb : l.length ≤ 1000000) :
    QSpec Try.prog W 68 [.slice A1 l.length c1, .slice A2 l.length c2] h (.bool true) := by
  refine QSpec.ofD (fun h' hs => ?_)
  have m1 := hs _ n1
  have m2 := hs _ n2
  refine spec_body Try.func68 rfl rfl Try.results68 Try.ntmps68 rfl rfl ?_
  have hd : ((l.length : Int) != (l.length : Int)) = false := by simp
  repeat' (first
    | apply aw_seq | apply aw_region | apply aw_ret | apply aw_skip | apply aw_exit | apply aw_block | apply es_nil
    | (apply es_pure hT; (iterate 4 exact rfl)) | (apply es_skip; (iterate 3 exact rfl)) | (apply es_skip0; (iterate 2 exact rfl))
    | (apply es_i64 hT; (iterate 4 exact rfl); (iterate 2 (first | omega | (dsimp only; omega))))
    | (apply aw_draw [] [] hmix; decide +kernel)
    | (apply es_load; (iterate 5 exact rfl); first | (apply ld_blk hT; exact rfl; exact rfl; (repeat (first | exact List.mem_cons_self | apply List.mem_cons_of_mem)); exact rfl; exact rfl) | (apply ld_all hT; exact rfl; exact rfl; (repeat (first | exact List.mem_cons_self | apply List.mem_cons_of_mem)); exact rfl))
    | (apply es_box; (iterate 5 exact rfl); intro _) | (apply es_alloc hT; (iterate 5 exact rfl); intro _)
    | (apply aw_condT; (iterate 2 exact rfl)) | (apply aw_condF; (iterate 2 exact rfl))
    | (apply es_case; exact rfl; all_goals intro hb; all_goals (fail_if_success (change true = true at hb)); all_goals (fail_if_success (change false = false at hb)); all_goals (try dsimp only at hb); all_goals (try simp only [hb]); all_goals (first | replace hb := of_decide_eq_true hb | replace hb := of_decide_eq_false hb | replace hb := bne_t hb | replace hb := bne_f hb | replace hb := eq_of_beq hb | replace hb := ne_of_beq_false hb | skip); all_goals (try (exfalso; omega)))
    | (apply aw_cond; exact rfl; all_goals intro hb; all_goals (try dsimp only at hb); all_goals (try simp only [hb]); all_goals (first | replace hb := of_decide_eq_true hb | replace hb := of_decide_eq_false hb | replace hb := bne_t hb | replace hb := bne_f hb | replace hb := eq_of_beq hb | replace hb := ne_of_beq_false hb | skip); all_goals (try (exfalso; omega))))
  all_goals try (exfalso; omega)
  refine aw_loopD (α := Nat) (E := fun k => [(0, .slice A1 l.length c1), (1, .slice A2 l.length c2), (5, .int .i64 k)]) (H := fun _ => h') (μ := fun k => l.length - k)
    (S := fun k => k ≤ l.length) 0 (Nat.zero_le _) ⟨rfl, rfl, rfl, trivial⟩ dt_end ?_
  intro k hk
  by_cases hlt : k < l.length
  · obtain ⟨x, hx⟩ : ∃ x, l[k]? = some x := ⟨l[k]'(by omega), List.getElem?_eq_getElem (by omega)⟩
    have hx2 : l[(k : Int).toNat]? = some x := by simpa using hx
    have hA1 := h1.some_ (by omega)
    have hA2 := h2.some_ (by omega)
    have hd1 : decide ((k : Int) < (l.length : Int)) = true := by simp; omega
    repeat' (first
      | apply aw_seq | apply aw_region | apply aw_ret | apply aw_skip | apply aw_exit | apply aw_block | apply es_nil
      | (apply es_pure hT; (iterate 4 exact rfl)) | (apply es_skip; (iterate 3 exact rfl)) | (apply es_skip0; (iterate 2 exact rfl))
      | (apply es_i64 hT; (iterate 4 exact rfl); (iterate 2 (first | omega | (dsimp only; omega))))
      | (apply aw_draw [] [] hmix; decide +kernel)
      | (apply es_idx hT; (iterate 8 exact rfl); (iterate 2 omega); first | exact hA1 | exact hA2)
      | (apply es_load; (iterate 5 exact rfl); first | exact ld_elem hT rfl rfl (h1.reads m1) FillR.enc_len rfl hx2 rfl | exact ld_elem hT rfl rfl (h2.reads m2) FillR.enc_len rfl hx2 rfl)
      | (apply es_neS hT; (iterate 5 exact rfl); exact eqF_same _; exact sOKFill)
      | (apply es_load; (iterate 5 exact rfl); first | (apply ld_blk hT; exact rfl; exact rfl; (repeat (first | exact List.mem_cons_self | apply List.mem_cons_of_mem)); exact rfl; exact rfl) | (apply ld_all hT; exact rfl; exact rfl; (repeat (first | exact List.mem_cons_self | apply List.mem_cons_of_mem)); exact rfl))
      | (apply es_box; (iterate 5 exact rfl); intro _) | (apply es_alloc hT; (iterate 5 exact rfl); intro _)
      | (apply aw_condT; (iterate 2 exact rfl)) | (apply aw_condF; (iterate 2 exact rfl))
      | (apply es_case; exact rfl; all_goals intro hb; all_goals (fail_if_success (change true = true at hb)); all_goals (fail_if_success (change false = false at hb)); all_goals (try dsimp only at hb); all_goals (try simp only [hb]); all_goals (first | replace hb := of_decide_eq_true hb | replace hb := of_decide_eq_false hb | replace hb := bne_t hb | replace hb := bne_f hb | replace hb := eq_of_beq hb | replace hb := ne_of_beq_false hb | skip); all_goals (try (exfalso; omega)))
      | (apply aw_cond; exact rfl; all_goals intro hb; all_goals (try dsimp only at hb); all_goals (try simp only [hb]); all_goals (first | replace hb := of_decide_eq_true hb | replace hb := of_decide_eq_false hb | replace hb := bne_t hb | replace hb := bne_f hb | replace hb := eq_of_beq hb | replace hb := ne_of_beq_false hb | skip); all_goals (try (exfalso; omega))))
    all_goals first
      | (exfalso; omega)
      | exact loopq_end (k + 1) (by (try dsimp only); omega) (by (try dsimp only); omega) ⟨rfl, rfl, rfl, trivial⟩ dt_end
      | skip
  · obtain rfl : k = l.length := by omega
    have hd1 : decide ((l.length : Int) < (l.length : Int)) = false := by simp
    repeat' (first
      | apply aw_seq | apply aw_region | apply aw_ret | apply aw_skip | apply aw_exit | apply aw_block | apply es_nil
      | (apply es_pure hT; (iterate 4 exact rfl)) | (apply es_skip; (iterate 3 exact rfl)) | (apply es_skip0; (iterate 2 exact rfl))
      | (apply es_i64 hT; (iterate 4 exact rfl); (iterate 2 (first | omega | (dsimp only; omega))))
      | (apply aw_draw [] [] hmix; decide +kernel)
      | (apply es_load; (iterate 5 exact rfl); first | (apply ld_blk hT; exact rfl; exact rfl; (repeat (first | exact List.mem_cons_self | apply List.mem_cons_of_mem)); exact rfl; exact rfl) | (apply ld_all hT; exact rfl; exact rfl; (repeat (first | exact List.mem_cons_self | apply List.mem_cons_of_mem)); exact rfl))
      | (apply es_box; (iterate 5 exact rfl); intro _) | (apply es_alloc hT; (iterate 5 exact rfl); intro _)
      | (apply aw_condT; (iterate 2 exact rfl)) | (apply aw_condF; (iterate 2 exact rfl))
      | (apply es_case; exact rfl; all_goals intro hb; all_goals (fail_if_success (change true = true at hb)); all_goals (fail_if_success (change false = false at hb)); all_goals (try dsimp only at hb); all_goals (try simp only [hb]); all_goals (first | replace hb := of_decide_eq_true hb | replace hb := of_decide_eq_false hb | replace hb := bne_t hb | replace hb := bne_f hb | replace hb := eq_of_beq hb | replace hb := ne_of_beq_false hb | skip); all_goals (try (exfalso; omega)))
      | (apply aw_cond; exact rfl; all_goals intro hb; all_goals (try dsimp only at hb); all_goals (try simp only [hb]); all_goals (first | replace hb := of_decide_eq_true hb | replace hb := of_decide_eq_false hb | replace hb := bne_t hb | replace hb := bne_f hb | replace hb := eq_of_beq hb | replace hb := ne_of_beq_false hb | skip); all_goals (try (exfalso; omega))))
    all_goals first
      | (exfalso; omega)
      | (apply ret1; exact rfl; exact ⟨rfl, dt_end⟩)
theorem gones_two (W : World) (h : List Chunk) (A1 A2 : Option Addr) (c1 c2 : Nat) (l : List GoneR) (h1 : OwnF A1 l.length c1 3 (l.flatMap GoneR.enc)) (h2 : OwnF A2 l.length c2 3 (l.flatMap GoneR.enc))
    (n1 : Chunk.own A1 l.length c1 103 3 (l.flatMap GoneR.enc) ∈ h) (n2 : Chunk.own A2 l.length c2 103 3 (l.flatMap GoneR.enc) ∈ h) (hb : l.length ≤ 1000000) :
    QSpec Try.prog W 69 [.slice A1 l.length c1, .slice A2 l.length c2] h (.bool true) := by
  refine QSpec.ofD (fun h' hs => ?_)
  have m1 := hs _ n1
  have m2 := hs _ n2
  refine spec_body Try.func69 rfl rfl Try.results69 Try.ntmps69 rfl rfl ?_
  have hd : ((l.length : Int) != (l.length : Int)) = false := by simp
  repeat' (first
    | apply aw_seq | apply aw_region | apply aw_ret | apply aw_skip | apply aw_exit | apply aw_block | apply es_nil
    | (apply es_pure hT; (iterate 4 exact rfl)) | (apply es_skip; (iterate 3 exact rfl)) | (apply es_skip0; (iterate 2 exact rfl))
    | (apply es_i64 hT; (iterate 4 exact rfl); (iterate 2 (first | omega | (dsimp only; omega))))
    | (apply aw_draw [] [] hmix; decide +kernel)
    | (apply es_load; (iterate 5 exact rfl); first | (apply ld_blk hT; exact rfl; exact rfl; (repeat (first | exact List.mem_cons_self | apply List.mem_cons_of_mem)); exact rfl; exact rfl) | (apply ld_all hT; exact rfl; exact rfl; (repeat (first | exact List.mem_cons_self | apply List.mem_cons_of_mem)); exact rfl))
    | (apply es_box; (iterate 5 exact rfl); intro _) | (apply es_alloc hT; (iterate 5 exact rfl); intro _)
    | (apply aw_condT; (iterate 2 exact rfl)) | (apply aw_condF; (iterate 2 exact rfl))
    | (apply es_case; exact rfl; all_goals intro hb; all_goals (fail_if_success (change true = true at hb)); all_goals (fail_if_success (change false = false at hb)); all_goals (try dsimp only at hb); all_goals (try simp only [hb]); all_goals (first | replace hb := of_decide_eq_true hb | replace hb := of_decide_eq_false hb | replace hb := bne_t hb | replace hb := bne_f hb | replace hb := eq_of_beq hb | replace hb := ne_of_beq_false hb | skip); all_goals (try (exfalso; omega)))
    | (apply aw_cond; exact rfl; all_goals intro hb; all_goals (try dsimp only at hb); all_goals (try simp only [hb]); all_goals (first | replace hb := of_decide_eq_true hb | replace hb := of_decide_eq_false hb | replace hb := bne_t hb | replace hb := bne_f hb | replace hb := eq_of_beq hb | replace hb := ne_of_beq_false hb | skip); all_goals (try (exfalso; omega))))
  all_goals try (exfalso; omega)
  refine aw_loopD (α := Nat) (E := fun k => [(0, .slice A1 l.length c1), (1, .slice A2 l.length c2), (5, .int .i64 k)]) (H := fun _ => h') (μ := fun k => l.length - k)
    (S := fun k => k ≤ l.length) 0 (Nat.zero_le _) ⟨rfl, rfl, rfl, trivial⟩ dt_end ?_
  intro k hk
  by_cases hlt : k < l.length
  · obtain ⟨x, hx⟩ : ∃ x, l[k]? = some x := ⟨l[k]'(by omega), List.getElem?_eq_getElem (by omega)⟩
    have hx2 : l[(k : Int).toNat]? = some x := by simpa using hx
    have hA1 := h1.some_ (by omega)
    have hA2 := h2.some_ (by omega)
    have hd1 : decide ((k : Int) < (l.length : Int)) = true := by simp; omega
    repeat' (first
      | apply aw_seq | apply aw_region | apply aw_ret | apply aw_skip | apply aw_exit | apply aw_block | apply es_nil
      | (apply es_pure hT; (iterate 4 exact rfl)) | (apply es_skip; (iterate 3 exact rfl)) | (apply es_skip0; (iterate 2 exact rfl))
      | (apply es_i64 hT; (iterate 4 exact rfl); (iterate 2 (first | omega | (dsimp only; omega))))
      | (apply aw_draw [] [] hmix; decide +kernel)
      | (apply es_idx hT; (iterate 8 exact rfl); (iterate 2 omega); first | exact hA1 | exact hA2)
      | (apply es_load; (iterate 5 exact rfl); first | exact ld_elem hT rfl rfl (h1.reads m1) GoneR.enc_len rfl hx2 rfl | exact ld_elem hT rfl rfl (h2.reads m2) GoneR.enc_len rfl hx2 rfl)
      | (apply es_neS hT; (iterate 5 exact rfl); exact eqG_same _; exact sOKGone)
      | (apply es_load; (iterate 5 exact rfl); first | (apply ld_blk hT; exact rfl; exact rfl; (repeat (first | exact List.mem_cons_self | apply List.mem_cons_of_mem)); exact rfl; exact rfl) | (apply ld_all hT; exact rfl; exact rfl; (repeat (first | exact List.mem_cons_self | apply List.mem_cons_of_mem)); exact rfl))
      | (apply es_box; (iterate 5 exact rfl); intro _) | (apply es_alloc hT; (iterate 5 exact rfl); intro _)
      | (apply aw_condT; (iterate 2 exact rfl)) | (apply aw_condF; (iterate 2 exact rfl))
      | (apply es_case; exact rfl; all_goals intro hb; all_goals (fail_if_success (change true = true at hb)); all_goals (fail_if_success (change false = false at hb)); all_goals (try dsimp only at hb); all_goals (try simp only [hb]); all_goals (first | replace hb := of_decide_eq_true hb | replace hb := of_decide_eq_false hb | replace hb := bne_t hb | replace hb := bne_f hb | replace hb := eq_of_beq hb | replace hb := ne_of_beq_false hb | skip); all_goals (try (exfalso; omega)))
      | (apply aw_cond; exact rfl; all_goals intro hb; all_goals (try dsimp only at hb); all_goals (try simp only [hb]); all_goals (first | replace hb := of_decide_eq_true hb | replace hb := of_decide_eq_false hb | replace hb := bne_t hb | replace hb := bne_f hb | replace hb := eq_of_beq hb | replace hb := ne_of_beq_false hb | skip); all_goals (try (exfalso; omega))))
    all_goals first
      | (exfalso; omega)
      | exact loopq_end (k + 1) (by (try dsimp only); omega) (by (try dsimp only); omega) ⟨rfl, rfl, rfl, trivial⟩ dt_end
      | skip
  · obtain rfl : k = l.length := by omega
    have hd1 : decide ((l.length : Int) < (l.length : Int)) = false := by simp
    repeat' (first
      | apply aw_seq | apply aw_region | apply aw_ret | apply aw_skip | apply aw_exit | apply aw_block | apply es_nil
      | (apply es_pure hT; (iterate 4 exact rfl)) | (apply es_skip; (iterate 3 exact rfl)) | (apply es_skip0; (iterate 2 exact rfl))
      | (apply es_i64 hT; (iterate 4 exact rfl); (iterate 2 (first | omega | (dsimp only; omega))))
      | (apply aw_draw [] [] hmix; decide +kernel)
      | (apply es_load; (iterate 5 exact rfl); first | (apply ld_blk hT; exact rfl; exact rfl; (repeat (first | exact List.mem_cons_self | apply List.mem_cons_of_mem)); exact rfl; exact rfl) | (apply ld_all hT; exact rfl; exact rfl; (repeat (first | exact List.mem_cons_self | apply List.mem_cons_of_mem)); exact rfl))
      | (apply es_box; (iterate 5 exact rfl); intro _) | (apply es_alloc hT; (iterate 5 exact rfl); intro _)
      | (apply aw_condT; (iterate 2 exact rfl)) | (apply aw_condF; (iterate 2 exact rfl))
      | (apply es_case; exact rfl; all_goals intro hb; all_goals (fail_if_success (change true = true at hb)); all_goals (fail_if_success (change false = false at hb)); all_goals (try dsimp only at hb); all_goals (try simp only [hb]); all_goals (first | replace hb := of_decide_eq_true hb | replace hb := of_decide_eq_false hb | replace hb := bne_t hb | replace hb := bne_f hb | replace hb := eq_of_beq hb | replace hb := ne_of_beq_false hb | skip); all_goals (try (exfalso; omega)))
      | (apply aw_cond; exact rfl; all_goals intro hb; all_goals (try dsimp only at hb); all_goals (try simp only [hb]); all_goals (first | replace hb := of_decide_eq_true hb | replace hb := of_decide_eq_false hb | replace hb := bne_t hb | replace hb := bne_f hb | replace hb := eq_of_beq hb | replace hb := ne_of_beq_false hb | skip); all_goals (try (exfalso; omega))))
    all_goals first
      | (exfalso; omega)
      | (apply ret1; exact rfl; exact ⟨rfl, dt_end⟩)

def kc1 : Order := ⟨1, 1, 0, 2, 10, 5⟩
def kc2 : Order := ⟨2, 2, 1, 1, 11, 7⟩
set_option maxHeartbeats 1000000 in
theorem cross_known (W : World) : QSpec Try.prog W 71 [] [] (.bool true) := by
  refine QSpec.ofD (fun h' hs => ?_)
  have hbo : bookOf [kc1] = [kc1] := by decide +kernel
  have hB := bookOf_B [kc1]
  rw [hbo] at hB
  have hboth : ∀ g h, Chunk.own (some ⟨g, 0, none⟩) 1 1 29 6 (([kc1] : List Order).flatMap Order.enc) ∈ h → FSpec Try.prog W 63 [.slice (some ⟨g, 0, none⟩) 1 1] h (fun v h' => ∃ p A c q A' c', v = .tuple #[.pointer (some ⟨p, 0, none⟩), .pointer (some ⟨q, 0, none⟩)] ∧ h' = bookTab p A c [kc1] (refB q A' c' [kc1] h)) := fun g h hm => by
    have := both15 W h (some ⟨g, 0, none⟩) 1 [kc1] (Reads.own hm rfl (List.all_eq_true.1 (rfl : (([kc1] : List Order).flatMap Order.enc).all Value.oneCell' = true))) (by simp)
    rw [hbo] at this
    exact this
  have d1 : (doV 0 kc2 [kc1]).fills = [⟨1, 2, 0, 1, 10, 5, 0⟩] := by decide +kernel
  have d2 : (doV 0 kc2 [kc1]).gones = [] := by decide +kernel
  have d3 : (doV 0 kc2 [kc1]).left = 2 := by decide +kernel
  have d4 : (doV 0 kc2 [kc1]).err = 0 := by decide +kernel
  have d5 : (doV 0 kc2 [kc1]).bk = [⟨2, 2, 1, 1, 11, 2⟩] := by decide +kernel
  have hdo := fun p A c F => cross_Do W F p A c [kc1] kc2 0 hB
  rw [d1, d2, d3, d4, d5] at hdo
  have hL := fun p A c => book_Len W p A c [⟨2, 2, 1, 1, 11, 2⟩]
  refine spec_body Try.func71 rfl rfl Try.results71 Try.ntmps71 rfl rfl ?_
  repeat' (first
    | apply aw_seq | apply aw_region | apply aw_ret | apply aw_skip | apply aw_exit | apply aw_block | apply es_nil
    | (apply es_pure hT; (iterate 4 exact rfl)) | (apply es_skip; (iterate 3 exact rfl)) | (apply es_skip0; (iterate 2 exact rfl))
    | (apply es_i64 hT; (iterate 4 exact rfl); (iterate 2 (first | omega | (dsimp only; omega))))
    | (apply aw_draw [] [] hmix; decide +kernel)
    | (apply es_buildS hT (cs := Order.enc kc1); (iterate 4 exact rfl))
    | (apply es_buildS hT (cs := Order.enc kc2); (iterate 4 exact rfl))
    | (apply es_buildSlice hT; (iterate 12 exact rfl); intro g)
    | (apply es_call (hs := (hboth _ _ mem0)); (iterate 7 exact rfl); rintro _ _ ⟨p, A, c, q, A', c', rfl, rfl⟩)
    | (apply es_call (hs := (hdo p A c _)); (iterate 7 exact rfl); rintro _ _ ⟨Af, cf, Ag, cg, A2, c2, rfl, rfl, hfF, hfG⟩)
    | (apply es_idx hT; (iterate 8 exact rfl); omega; (show (0 : Int) < 1; omega); exact hfF.some_ (by simp))
    | (apply es_load; (iterate 5 exact rfl); exact ld_fld hT rfl rfl (hfF.reads mem0) FillR.enc_len (adr_add _ _ _) (rfl : ([⟨1, 2, 0, 1, 10, 5, 0⟩] : List FillR)[0]? = some ⟨1, 2, 0, 1, 10, 5, 0⟩) (by decide) rfl)
    | (apply es_callQ (hs := ((hL p A2 c2).mono (memPairB mem2 mem3))); (iterate 7 exact rfl))
    | (apply es_load; (iterate 5 exact rfl); first | (apply ld_blk hT; exact rfl; exact rfl; (repeat (first | exact List.mem_cons_self | apply List.mem_cons_of_mem)); exact rfl; exact rfl) | (apply ld_all hT; exact rfl; exact rfl; (repeat (first | exact List.mem_cons_self | apply List.mem_cons_of_mem)); exact rfl))
    | (apply es_box; (iterate 5 exact rfl); intro _) | (apply es_alloc hT; (iterate 5 exact rfl); intro _)
    | (apply aw_condT; (iterate 2 exact rfl)) | (apply aw_condF; (iterate 2 exact rfl))
    | (apply es_case; exact rfl; all_goals intro hb; all_goals (fail_if_success (change true = true at hb)); all_goals (fail_if_success (change false = false at hb)); all_goals (try dsimp only at hb); all_goals (try simp only [hb]); all_goals (first | replace hb := of_decide_eq_true hb | replace hb := of_decide_eq_false hb | replace hb := bne_t hb | replace hb := bne_f hb | replace hb := eq_of_beq hb | replace hb := ne_of_beq_false hb | skip); all_goals (try (exfalso; omega)))
    | (apply aw_cond; exact rfl; all_goals intro hb; all_goals (try dsimp only at hb); all_goals (try simp only [hb]); all_goals (first | replace hb := of_decide_eq_true hb | replace hb := of_decide_eq_false hb | replace hb := bne_t hb | replace hb := bne_f hb | replace hb := eq_of_beq hb | replace hb := ne_of_beq_false hb | skip); all_goals (try (exfalso; omega))))
  all_goals first
    | (exfalso; omega)
    | (apply ret1; exact rfl; exact ⟨rfl, by (repeat (first | exact dt_end | (apply dt_cons; · (repeat (first | exact sel0 | apply selS))) | apply dt_skip))⟩)
    | skip
end Go.Proofs.Ytiefkpfamkkapaa
