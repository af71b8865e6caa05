/- What the statement GateBest answers. Conditions stand in each statement. -/
import Derived.Test.YtiefkpfamkkapaaGateB
set_option linter.unusedSimpArgs false
set_option linter.unusedVariables false
namespace Go.Proofs.Ytiefkpfamkkapaa
open Go Go.Sl
attribute [local irreducible] AW ES EP Ld RetQ
set_option maxRecDepth 100000

theorem decQuote (vs : List Value) (h : FitsL [.int .i64, .int .i64, .int .i64, .int .i64, .int .i64, .bool] vs) : ∃ x : Quote, Quote.enc x = vs ∧ True := by
  have hlen : vs.length = 6 := h.len
  match vs, hlen, h with
  | [u0, u1, u2, u3, u4, u5], _, h =>
    obtain ⟨a, ha, _⟩ := h.1
    obtain ⟨b, hb, _⟩ := h.2.1
    obtain ⟨c, hc, _⟩ := h.2.2.1
    obtain ⟨d, hd, _⟩ := h.2.2.2.1
    obtain ⟨e, he, _⟩ := h.2.2.2.2.1
    obtain ⟨f, hf⟩ := h.2.2.2.2.2.1
    exact ⟨⟨a, b, c, d, e, f⟩, by rw [ha, hb, hc, hd, he, hf]; rfl, trivial⟩
theorem aheadQ_iff {s : Int} (hs : isB s = true) (a b : Quote) : aheadQ s a b = true ↔ (if s = 1 then a.price < b.price ∨ (a.price = b.price ∧ a.id < b.id) else a.price > b.price ∨ (a.price = b.price ∧ a.id < b.id)) := by
  rw [aheadQ_ref hs]
  rcases isB_two hs with rfl | rfl
  · simp [betterB]
  · simp [betterB]
theorem best_min {s : Int} (hs : isB s = true) : ∀ (l : List Quote) (x : Quote), aheadQ s x (l.foldl (bestQ s) x) = false ∧ ∀ y ∈ l, aheadQ s y (l.foldl (bestQ s) x) = false
  | [], x => by
    refine ⟨?_, fun y hy => (by cases hy)⟩
    cases h : aheadQ s x x
    · exact h
    · have := (aheadQ_iff hs x x).1 h
      exfalso; split at this <;> omega
  | q :: l, x => by
    rw [List.foldl_cons]
    obtain ⟨h1, h2⟩ := best_min hs l (bestQ s x q)
    generalize l.foldl (bestQ s) (bestQ s x q) = F at h1 h2
    have hno : ∀ a, aheadQ s a F = false ↔ ¬ (if s = 1 then a.price < F.price ∨ (a.price = F.price ∧ a.id < F.id) else a.price > F.price ∨ (a.price = F.price ∧ a.id < F.id)) := fun a => by
      rw [← aheadQ_iff hs, Bool.not_eq_true]
    have hb := aheadQ_iff hs q x
    unfold bestQ at h1
    cases hc : aheadQ s q x
    · rw [hc] at h1 hb
      simp only [Bool.false_eq_true, if_false] at h1
      rw [hno] at h1
      simp only [Bool.false_eq_true, false_iff] at hb
      refine ⟨(hno x).2 h1, fun y hy => ?_⟩
      rcases List.mem_cons.1 hy with rfl | hy
      · rw [hno]; split at h1 <;> split at hb <;> split <;> omega
      · exact h2 y hy
    · rw [hc] at h1 hb
      simp only [if_true] at h1
      rw [hno] at h1
      simp only [true_iff] at hb
      refine ⟨?_, fun y hy => ?_⟩
      · rw [hno]; split at h1 <;> split at hb <;> split <;> omega
      · rcases List.mem_cons.1 hy with rfl | hy
        · exact (hno y).2 h1
        · exact h2 y hy

theorem sOKQuote : structOK Try.prog 74 := ⟨by kernel_rfl, by kernel_rfl⟩
theorem eqQ_same (y : Quote) : eqSt TT 74 y.enc.toArray y.enc.toArray = some true := by
  have h : eqSt TT 74 y.enc.toArray y.enc.toArray = some (y.id == y.id && (y.ask == y.ask && (y.dealer == y.dealer && (y.price == y.price && (y.expires == y.expires && ((y.live == y.live) && true)))))) := rfl
  rw [h]; simp
theorem ref17_Same1 (W : World) (g : Nat) : QSpec Try.prog W 62 [.slice none 0 0, .slice (some ⟨g, 0, none⟩) 1 1] [] (.bool false) := by
  refine QSpec.ofD (fun h' hs => ?_)
  refine spec_body Try.func62 rfl rfl Try.results62 Try.ntmps62 rfl rfl ?_
  repeat' (first
    | apply aw_seq | apply aw_region | apply aw_ret | apply aw_skip | apply aw_exit | apply aw_block | apply es_nil
    | (apply es_pure hT; (iterate 4 exact rfl)) | (apply es_skip; (iterate 3 exact rfl)) | (apply es_skip0; (iterate 2 exact rfl))
    | (apply es_i64 hT; (iterate 4 exact rfl); (iterate 2 omega))
    | (apply aw_draw [] [] hmix; decide +kernel)
    | (apply es_load; (iterate 5 exact rfl); first | (apply ld_blk hT; exact rfl; exact rfl; (repeat (first | exact List.mem_cons_self | apply List.mem_cons_of_mem)); exact rfl; exact rfl) | (apply ld_all hT; exact rfl; exact rfl; (repeat (first | exact List.mem_cons_self | apply List.mem_cons_of_mem)); exact rfl))
    | (apply es_box; (iterate 5 exact rfl); intro _) | (apply es_alloc hT; (iterate 5 exact rfl); intro _)
    | (apply aw_condT; (iterate 2 exact rfl)) | (apply aw_condF; (iterate 2 exact rfl))
    | (apply es_case; exact rfl; all_goals intro hb; all_goals (try simp only [hb]); all_goals (first | replace hb := of_decide_eq_true hb | replace hb := of_decide_eq_false hb | replace hb := bne_t hb | replace hb := bne_f hb | skip); all_goals (try (exfalso; omega)))
    | (apply aw_cond; exact rfl; all_goals intro hb; all_goals (try simp only [hb]); all_goals (first | replace hb := of_decide_eq_true hb | replace hb := of_decide_eq_false hb | replace hb := bne_t hb | replace hb := bne_f hb | skip); all_goals (try (exfalso; omega))))
  all_goals first
    | (exfalso; omega)
    | (apply ret1; exact rfl; exact ⟨rfl, by (repeat (first | exact dt_end | apply dt_skip))⟩)

set_option maxHeartbeats 2000000 in
theorem gate_BestLaw (W : World) (s : Int) (A0 : Option Addr) (c0 : Nat) (l : List Quote) (hr0 : Reads W [] A0 l.length 6 (l.flatMap Quote.enc)) :
    FSpec Try.prog W 16 [.int .i64 s, .slice A0 l.length c0] [] (fun v _ => v = .bool true) := by
  refine spec_body Try.func16 rfl rfl Try.results16 Try.ntmps16 rfl rfl ?_
  refine aw_reads hr0 (by rfl) (fun hA => ?_)
  by_cases h1 : l.length > 60
  · repeat' (first
      | apply aw_seq | apply aw_region | apply aw_ret | apply aw_skip | apply aw_exit | apply aw_block | apply es_nil
      | (apply es_pure hT; (iterate 4 exact rfl)) | (apply es_skip; (iterate 3 exact rfl)) | (apply es_skip0; (iterate 2 exact rfl))
      | (apply es_i64 hT; (iterate 4 exact rfl); (iterate 2 omega))
      | (apply aw_draw [] [] hmix; decide +kernel)
      | (apply es_load; (iterate 5 exact rfl); first | (apply ld_blk hT; exact rfl; exact rfl; (repeat (first | exact List.mem_cons_self | apply List.mem_cons_of_mem)); exact rfl; exact rfl) | (apply ld_all hT; exact rfl; exact rfl; (repeat (first | exact List.mem_cons_self | apply List.mem_cons_of_mem)); exact rfl))
      | (apply es_box; (iterate 5 exact rfl); intro _) | (apply es_alloc hT; (iterate 5 exact rfl); intro _)
      | (apply aw_condT; (iterate 2 exact rfl)) | (apply aw_condF; (iterate 2 exact rfl))
      | (apply es_case; exact rfl; all_goals intro hb; all_goals (try simp only [hb]); all_goals (first | replace hb := of_decide_eq_true hb | replace hb := of_decide_eq_false hb | replace hb := bne_t hb | replace hb := bne_f hb | skip); all_goals (try (exfalso; omega)))
      | (apply aw_cond; exact rfl; all_goals intro hb; all_goals (try simp only [hb]); all_goals (first | replace hb := of_decide_eq_true hb | replace hb := of_decide_eq_false hb | replace hb := bne_t hb | replace hb := bne_f hb | skip); all_goals (try (exfalso; omega))))
    apply ret1; exact rfl; exact rfl
  have hg := fun h => (gate_Best W [] A0 c0 l s hr0 (by omega)).mono (h' := h) (by simp)
  have hf := fun h => (ref19_Best W [] A0 c0 l s hr0 (by omega)).mono (h' := h) (by simp)
  have hI := ref2_Is W s
  have hkn := gate_known W
  cases hB : isB s
  · rw [show bestV s l = none by simp [bestV, hB]] at hg hf
    rw [hB] at hI
    repeat' (first
      | apply aw_seq | apply aw_region | apply aw_ret | apply aw_skip | apply aw_exit | apply aw_block | apply es_nil
      | (apply es_pure hT; (iterate 4 exact rfl)) | (apply es_skip; (iterate 3 exact rfl)) | (apply es_skip0; (iterate 2 exact rfl))
      | (apply es_i64 hT; (iterate 4 exact rfl); (iterate 2 omega))
      | (apply aw_draw [] [] hmix; decide +kernel)
      | (apply es_callQ (hs := (hg _)); (iterate 7 exact rfl))
      | (apply es_callQ (hs := (hf _)); (iterate 7 exact rfl))
      | (apply es_alloc hT; (iterate 5 exact rfl); first | ((fail_if_success (have q := g0)); intro g0) | ((fail_if_success (have q := g4)); intro g4) | intro _)
      | (apply es_callQ (hs := (hI.mono (by simp))); (iterate 7 exact rfl))
      | (apply es_callQ (hs := (hkn.mono (by simp))); (iterate 7 exact rfl))
      | (apply es_store hT; (iterate 6 exact rfl); (repeat (first | exact sel0 | apply selS)); (iterate 3 exact rfl); exact Nat.le_of_ble_eq_true rfl)
      | (apply es_neS hT; (iterate 5 exact rfl); exact eqQ_same _; exact sOKQuote)
      | (apply es_load; (iterate 5 exact rfl); first | (apply ld_blk hT; exact rfl; exact rfl; (repeat (first | exact List.mem_cons_self | apply List.mem_cons_of_mem)); exact rfl; exact rfl) | (apply ld_all hT; exact rfl; exact rfl; (repeat (first | exact List.mem_cons_self | apply List.mem_cons_of_mem)); exact rfl))
      | (apply es_box; (iterate 5 exact rfl); intro _) | (apply es_alloc hT; (iterate 5 exact rfl); intro _)
      | (apply aw_condT; (iterate 2 exact rfl)) | (apply aw_condF; (iterate 2 exact rfl))
      | (apply es_case; exact rfl; all_goals intro hb; all_goals (try simp only [hb]); all_goals (first | replace hb := of_decide_eq_true hb | replace hb := of_decide_eq_false hb | replace hb := bne_t hb | replace hb := bne_f hb | skip); all_goals (try (exfalso; omega)))
      | (apply aw_cond; exact rfl; all_goals intro hb; all_goals (try simp only [hb]); all_goals (first | replace hb := of_decide_eq_true hb | replace hb := of_decide_eq_false hb | replace hb := bne_t hb | replace hb := bne_f hb | skip); all_goals (try (exfalso; omega))))
    all_goals try (exfalso; omega)
    refine aw_loopD (α := Unit) (E := fun _ => [(6, .bool false)]) (H := fun _ => []) (μ := fun _ => 0) (S := fun _ => True) () trivial ⟨rfl, trivial⟩ (by (repeat (first | exact dt_end | (apply dt_cons; · (repeat (first | exact sel0 | apply selS))) | apply dt_skip))) ?_
    intro _ _
    repeat' (first
      | apply aw_seq | apply aw_region | apply aw_ret | apply aw_skip | apply aw_exit | apply aw_block | apply es_nil
      | (apply es_pure hT; (iterate 4 exact rfl)) | (apply es_skip; (iterate 3 exact rfl)) | (apply es_skip0; (iterate 2 exact rfl))
      | (apply es_i64 hT; (iterate 4 exact rfl); (iterate 2 omega))
      | (apply aw_draw [] [] hmix; decide +kernel)
      | (apply es_callQ (hs := (hkn.mono (by simp))); (iterate 7 exact rfl))
      | (apply es_load; (iterate 5 exact rfl); first | (apply ld_blk hT; exact rfl; exact rfl; (repeat (first | exact List.mem_cons_self | apply List.mem_cons_of_mem)); exact rfl; exact rfl) | (apply ld_all hT; exact rfl; exact rfl; (repeat (first | exact List.mem_cons_self | apply List.mem_cons_of_mem)); exact rfl))
      | (apply es_box; (iterate 5 exact rfl); intro _) | (apply es_alloc hT; (iterate 5 exact rfl); intro _)
      | (apply aw_condT; (iterate 2 exact rfl)) | (apply aw_condF; (iterate 2 exact rfl))
      | (apply es_case; exact rfl; all_goals intro hb; all_goals (try simp only [hb]); all_goals (first | replace hb := of_decide_eq_true hb | replace hb := of_decide_eq_false hb | replace hb := bne_t hb | replace hb := bne_f hb | skip); all_goals (try (exfalso; omega)))
      | (apply aw_cond; exact rfl; all_goals intro hb; all_goals (try simp only [hb]); all_goals (first | replace hb := of_decide_eq_true hb | replace hb := of_decide_eq_false hb | replace hb := bne_t hb | replace hb := bne_f hb | skip); all_goals (try (exfalso; omega))))
    all_goals first
      | (exfalso; omega)
      | (apply ret1; exact rfl; exact rfl)
  rw [hB] at hI
  cases l with
  | nil =>
    rw [show bestV s [] = none by simp [bestV, hB]] at hg hf
    have hd : decide (((([] : List Quote).length : Nat) : Int) > 0) = false := by decide
    repeat' (first
      | apply aw_seq | apply aw_region | apply aw_ret | apply aw_skip | apply aw_exit | apply aw_block | apply es_nil
      | (apply es_pure hT; (iterate 4 exact rfl)) | (apply es_skip; (iterate 3 exact rfl)) | (apply es_skip0; (iterate 2 exact rfl))
      | (apply es_i64 hT; (iterate 4 exact rfl); (iterate 2 omega))
      | (apply aw_draw [] [] hmix; decide +kernel)
      | (apply es_callQ (hs := (hg _)); (iterate 7 exact rfl))
      | (apply es_callQ (hs := (hf _)); (iterate 7 exact rfl))
      | (apply es_alloc hT; (iterate 5 exact rfl); first | ((fail_if_success (have q := g0)); intro g0) | ((fail_if_success (have q := g4)); intro g4) | intro _)
      | (apply es_callQ (hs := (hI.mono (by simp))); (iterate 7 exact rfl))
      | (apply es_callQ (hs := (hkn.mono (by simp))); (iterate 7 exact rfl))
      | (apply es_store hT; (iterate 6 exact rfl); (repeat (first | exact sel0 | apply selS)); (iterate 3 exact rfl); exact Nat.le_of_ble_eq_true rfl)
      | (apply es_neS hT; (iterate 5 exact rfl); exact eqQ_same _; exact sOKQuote)
      | (apply es_load; (iterate 5 exact rfl); first | (apply ld_blk hT; exact rfl; exact rfl; (repeat (first | exact List.mem_cons_self | apply List.mem_cons_of_mem)); exact rfl; exact rfl) | (apply ld_all hT; exact rfl; exact rfl; (repeat (first | exact List.mem_cons_self | apply List.mem_cons_of_mem)); exact rfl))
      | (apply es_box; (iterate 5 exact rfl); intro _) | (apply es_alloc hT; (iterate 5 exact rfl); intro _)
      | (apply aw_condT; (iterate 2 exact rfl)) | (apply aw_condF; (iterate 2 exact rfl))
      | (apply es_case; exact rfl; all_goals intro hb; all_goals (try simp only [hb]); all_goals (first | replace hb := of_decide_eq_true hb | replace hb := of_decide_eq_false hb | replace hb := bne_t hb | replace hb := bne_f hb | skip); all_goals (try (exfalso; omega)))
      | (apply aw_cond; exact rfl; all_goals intro hb; all_goals (try simp only [hb]); all_goals (first | replace hb := of_decide_eq_true hb | replace hb := of_decide_eq_false hb | replace hb := bne_t hb | replace hb := bne_f hb | skip); all_goals (try (exfalso; omega))))
    all_goals try (exfalso; omega)
    all_goals try (exfalso; simp at *; done)
    refine aw_loopD (α := Unit) (E := fun _ => [(6, .bool false)]) (H := fun _ => []) (μ := fun _ => 0) (S := fun _ => True) () trivial ⟨rfl, trivial⟩ (by (repeat (first | exact dt_end | (apply dt_cons; · (repeat (first | exact sel0 | apply selS))) | apply dt_skip))) ?_
    intro _ _
    repeat' (first
      | apply aw_seq | apply aw_region | apply aw_ret | apply aw_skip | apply aw_exit | apply aw_block | apply es_nil
      | (apply es_pure hT; (iterate 4 exact rfl)) | (apply es_skip; (iterate 3 exact rfl)) | (apply es_skip0; (iterate 2 exact rfl))
      | (apply es_i64 hT; (iterate 4 exact rfl); (iterate 2 omega))
      | (apply aw_draw [] [] hmix; decide +kernel)
      | (apply es_callQ (hs := (hkn.mono (by simp))); (iterate 7 exact rfl))
      | (apply es_load; (iterate 5 exact rfl); first | (apply ld_blk hT; exact rfl; exact rfl; (repeat (first | exact List.mem_cons_self | apply List.mem_cons_of_mem)); exact rfl; exact rfl) | (apply ld_all hT; exact rfl; exact rfl; (repeat (first | exact List.mem_cons_self | apply List.mem_cons_of_mem)); exact rfl))
      | (apply es_box; (iterate 5 exact rfl); intro _) | (apply es_alloc hT; (iterate 5 exact rfl); intro _)
      | (apply aw_condT; (iterate 2 exact rfl)) | (apply aw_condF; (iterate 2 exact rfl))
      | (apply es_case; exact rfl; all_goals intro hb; all_goals (try simp only [hb]); all_goals (first | replace hb := of_decide_eq_true hb | replace hb := of_decide_eq_false hb | replace hb := bne_t hb | replace hb := bne_f hb | skip); all_goals (try (exfalso; omega)))
      | (apply aw_cond; exact rfl; all_goals intro hb; all_goals (try simp only [hb]); all_goals (first | replace hb := of_decide_eq_true hb | replace hb := of_decide_eq_false hb | replace hb := bne_t hb | replace hb := bne_f hb | skip); all_goals (try (exfalso; omega))))
    all_goals first
      | (exfalso; omega)
      | (apply ret1; exact rfl; exact rfl)
  | cons x0 r =>
    have hv : bestV s (x0 :: r) = some (bestF s x0 (x0 :: r)) := by simp [bestV, hB]
    have hmin := (best_min hB (x0 :: r) x0).2
    rw [hv] at hg hf
    change ∀ y ∈ x0 :: r, aheadQ s y (bestF s x0 (x0 :: r)) = false at hmin
    generalize hl : x0 :: r = l at *
    have hpos : 0 < l.length := by rw [← hl]; simp
    have hA := hA hpos
    have hd : decide ((l.length : Int) > 0) = true := by simp; omega
    generalize bestF s x0 l = b at hg hf hmin
    repeat' (first
      | apply aw_seq | apply aw_region | apply aw_ret | apply aw_skip | apply aw_exit | apply aw_block | apply es_nil
      | (apply es_pure hT; (iterate 4 exact rfl)) | (apply es_skip; (iterate 3 exact rfl)) | (apply es_skip0; (iterate 2 exact rfl))
      | (apply es_i64 hT; (iterate 4 exact rfl); (iterate 2 omega))
      | (apply aw_draw [] [] hmix; decide +kernel)
      | (apply es_callQ (hs := (hg _)); (iterate 7 exact rfl))
      | (apply es_callQ (hs := (hf _)); (iterate 7 exact rfl))
      | (apply es_alloc hT; (iterate 5 exact rfl); first | ((fail_if_success (have q := g0)); intro g0) | ((fail_if_success (have q := g4)); intro g4) | intro _)
      | (apply es_callQ (hs := (hI.mono (by simp))); (iterate 7 exact rfl))
      | (apply es_callQ (hs := (hkn.mono (by simp))); (iterate 7 exact rfl))
      | (apply es_store hT; (iterate 6 exact rfl); (repeat (first | exact sel0 | apply selS)); (iterate 3 exact rfl); exact Nat.le_of_ble_eq_true rfl)
      | (apply es_neS hT; (iterate 5 exact rfl); exact eqQ_same _; exact sOKQuote)
      | (apply es_load; (iterate 5 exact rfl); first | (apply ld_blk hT; exact rfl; exact rfl; (repeat (first | exact List.mem_cons_self | apply List.mem_cons_of_mem)); exact rfl; exact rfl) | (apply ld_all hT; exact rfl; exact rfl; (repeat (first | exact List.mem_cons_self | apply List.mem_cons_of_mem)); exact rfl))
      | (apply es_box; (iterate 5 exact rfl); intro _) | (apply es_alloc hT; (iterate 5 exact rfl); intro _)
      | (apply aw_condT; (iterate 2 exact rfl)) | (apply aw_condF; (iterate 2 exact rfl))
      | (apply es_case; exact rfl; all_goals intro hb; all_goals (try simp only [hb]); all_goals (first | replace hb := of_decide_eq_true hb | replace hb := of_decide_eq_false hb | replace hb := bne_t hb | replace hb := bne_f hb | skip); all_goals (try (exfalso; omega)))
      | (apply aw_cond; exact rfl; all_goals intro hb; all_goals (try simp only [hb]); all_goals (first | replace hb := of_decide_eq_true hb | replace hb := of_decide_eq_false hb | replace hb := bne_t hb | replace hb := bne_f hb | skip); all_goals (try (exfalso; omega))))
    all_goals try (exfalso; omega)
    all_goals try (exfalso; rw [hd] at hb; exact absurd hb (by decide))
    refine aw_loopD (α := Nat) (E := fun k => [(0, .int .i64 s), (1, .slice A0 l.length c0), (5, .pointer (some ⟨g0, 0, none⟩)), (6, .bool true), (9, .int .i64 k)]) (H := fun _ => [.blk g0 74 b.enc]) (μ := fun k => l.length - k)
      (S := fun k => k ≤ l.length) 0 (Nat.zero_le _) ⟨rfl, rfl, rfl, rfl, rfl, trivial⟩ (by (repeat (first | exact dt_end | (apply dt_cons; · (repeat (first | exact sel0 | apply selS))) | apply dt_skip))) ?_
    intro k hk
    by_cases hlt : k < l.length
    · obtain ⟨y, hy⟩ : ∃ y, l[k]? = some y := ⟨l[k]'(by omega), List.getElem?_eq_getElem (by omega)⟩
      have hy2 : l[(k : Int).toNat]? = some y := by simpa using hy
      have hd1 : decide ((k : Int) < (l.length : Int)) = true := by simp; omega
      have hno := hmin y (List.mem_of_getElem? hy)
      rw [aheadQ_ref hB, Bool.or_eq_false_iff] at hno
      have hO := (ref2_Other W s).cast (by rw [show otherB s = 3 - s by simp [otherB, hB]])
      have hBt := (ref2_Better W (3 - s) y.price b.price).cast (by rw [hno.1])
      have hno2 : ¬ (y.price = b.price ∧ y.id < b.id) := by have := hno.2; simpa using this
      repeat' (first
        | apply aw_seq | apply aw_region | apply aw_ret | apply aw_skip | apply aw_exit | apply aw_block | apply es_nil
        | (apply es_pure hT; (iterate 4 exact rfl)) | (apply es_skip; (iterate 3 exact rfl)) | (apply es_skip0; (iterate 2 exact rfl))
        | (apply es_i64 hT; (iterate 4 exact rfl); (iterate 2 omega))
        | (apply aw_draw [29, 61] [] hmix; decide +kernel)
        | (apply es_idx hT; (iterate 8 exact rfl); (iterate 2 omega); exact hA)
        | (apply es_load; (iterate 5 exact rfl); exact ld_fld hT rfl rfl (hr0.mono (by simp)) Quote.enc_len (adr_add _ _ _) hy2 (by decide) rfl)
        | (apply es_callQ (hs := (hO.mono (by simp))); (iterate 7 exact rfl))
        | (apply es_callQ (hs := (hBt.mono (by simp))); (iterate 7 exact rfl))
        | (apply es_load; (iterate 5 exact rfl); first | (apply ld_blk hT; exact rfl; exact rfl; (repeat (first | exact List.mem_cons_self | apply List.mem_cons_of_mem)); exact rfl; exact rfl) | (apply ld_all hT; exact rfl; exact rfl; (repeat (first | exact List.mem_cons_self | apply List.mem_cons_of_mem)); exact rfl))
        | (apply es_box; (iterate 5 exact rfl); intro _) | (apply es_alloc hT; (iterate 5 exact rfl); intro _)
        | (apply aw_condT; (iterate 2 exact rfl)) | (apply aw_condF; (iterate 2 exact rfl))
        | (apply es_case; exact rfl; all_goals intro hb; all_goals (try simp only [hb]); all_goals (first | replace hb := of_decide_eq_true hb | replace hb := of_decide_eq_false hb | replace hb := bne_t hb | replace hb := bne_f hb | skip); all_goals (try (exfalso; omega)))
        | (apply aw_cond; exact rfl; all_goals intro hb; all_goals (try simp only [hb]); all_goals (first | replace hb := of_decide_eq_true hb | replace hb := of_decide_eq_false hb | replace hb := bne_t hb | replace hb := bne_f hb | skip); all_goals (try (exfalso; omega))))
      all_goals first
        | (exfalso; omega)
        | exact loopq_end (k + 1) (by (try dsimp only); omega) (by (try dsimp only); omega) ⟨rfl, rfl, rfl, rfl, rfl, trivial⟩ dt_end
        | skip
    · obtain rfl : k = l.length := by omega
      have hd1 : decide ((l.length : Int) < (l.length : Int)) = false := by simp
      repeat' (first
        | apply aw_seq | apply aw_region | apply aw_ret | apply aw_skip | apply aw_exit | apply aw_block | apply es_nil
        | (apply es_pure hT; (iterate 4 exact rfl)) | (apply es_skip; (iterate 3 exact rfl)) | (apply es_skip0; (iterate 2 exact rfl))
        | (apply es_i64 hT; (iterate 4 exact rfl); (iterate 2 omega))
        | (apply aw_draw [] [] hmix; decide +kernel)
        | (apply es_buildSlice hT; (iterate 12 exact rfl); intro g)
        | (apply es_callQ (hs := ((ref17_Same1 W _).mono (by simp))); (iterate 7 exact rfl))
        | (apply es_callQ (hs := (hkn.mono (by simp))); (iterate 7 exact rfl))
        | (apply es_load; (iterate 5 exact rfl); first | (apply ld_blk hT; exact rfl; exact rfl; (repeat (first | exact List.mem_cons_self | apply List.mem_cons_of_mem)); exact rfl; exact rfl) | (apply ld_all hT; exact rfl; exact rfl; (repeat (first | exact List.mem_cons_self | apply List.mem_cons_of_mem)); exact rfl))
        | (apply es_box; (iterate 5 exact rfl); intro _) | (apply es_alloc hT; (iterate 5 exact rfl); intro _)
        | (apply aw_condT; (iterate 2 exact rfl)) | (apply aw_condF; (iterate 2 exact rfl))
        | (apply es_case; exact rfl; all_goals intro hb; all_goals (try simp only [hb]); all_goals (first | replace hb := of_decide_eq_true hb | replace hb := of_decide_eq_false hb | replace hb := bne_t hb | replace hb := bne_f hb | skip); all_goals (try (exfalso; omega)))
        | (apply aw_cond; exact rfl; all_goals intro hb; all_goals (try simp only [hb]); all_goals (first | replace hb := of_decide_eq_true hb | replace hb := of_decide_eq_false hb | replace hb := bne_t hb | replace hb := bne_f hb | skip); all_goals (try (exfalso; omega))))
      all_goals first
        | (exfalso; omega)
        | (apply ret1; exact rfl; exact rfl)
        | skip
end Go.Proofs.Ytiefkpfamkkapaa
