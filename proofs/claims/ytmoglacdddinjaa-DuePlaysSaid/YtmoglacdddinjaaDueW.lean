/- What the statements on package due answer. Conditions stand in each statement. -/
import Derived.Test.YtmoglacdddinjaaDueL
set_option linter.unusedSimpArgs false
set_option linter.unusedVariables false
namespace Go.Proofs.Ytmoglacdddinjaa
open Go Go.Sl
attribute [local irreducible] AW ES Ld RetQ
set_option maxRecDepth 100000

theorem due_known (W : World) : QSpec Try.prog W 24 [] [] (.bool true) := by
  refine QSpec.ofD (fun h' hs => ?_)
  refine spec_body Try.func24 rfl rfl Try.results24 Try.ntmps24 rfl rfl ?_
  have hadd1 : ∀ p A c, FSpec Try.prog W 20 [.pointer (some ⟨p, 0, none⟩), .agg (Due.enc ⟨5, 1, 1⟩).toArray] (dueRow p A c [] h') (fun v k => v = .bool true ∧ ∃ A' c', k = dueRow p A' c' [⟨5, 1, 1⟩] h') := fun p A c =>
    (due_Add W h' p A c [] ⟨5, 1, 1⟩ (by simp) (by simp)).mono (fun v k h => by rw [show addD [] ⟨5, 1, 1⟩ = [⟨5, 1, 1⟩] by decide] at h; exact h)
  have hadd2 : ∀ p A c, FSpec Try.prog W 20 [.pointer (some ⟨p, 0, none⟩), .agg (Due.enc ⟨3, 1, 2⟩).toArray] (dueRow p A c [⟨5, 1, 1⟩] h') (fun v k => v = .bool true ∧ ∃ A' c', k = dueRow p A' c' [⟨3, 1, 2⟩, ⟨5, 1, 1⟩] h') := fun p A c =>
    (due_Add W h' p A c [⟨5, 1, 1⟩] ⟨3, 1, 2⟩ (by simp) (RowD.mono (l := [⟨5, 1, 1⟩]) ⟨by simp, by simp⟩)).mono (fun v k h => by rw [show addD [⟨5, 1, 1⟩] ⟨3, 1, 2⟩ = [⟨3, 1, 2⟩, ⟨5, 1, 1⟩] by decide] at h; exact h)
  have htake : ∀ p A c, FSpec Try.prog W 23 [.pointer (some ⟨p, 0, none⟩), .int .i64 4] (dueRow p A c [⟨3, 1, 2⟩, ⟨5, 1, 1⟩] h')
      (fun v k => ∃ A1 c1 A2 c2, v = .slice A1 1 c1 ∧ k = .own A1 1 c1 39 3 ([⟨3, 1, 2⟩].flatMap Due.enc) :: dueRow p A2 c2 [⟨5, 1, 1⟩] h' ∧ OwnF A1 1 c1 3 ([⟨3, 1, 2⟩].flatMap Due.enc)) := fun p A c =>
    due_TakeF W h' p A c [⟨3, 1, 2⟩, ⟨5, 1, 1⟩] 4 (by simp)
  have hlen : ∀ p A c X, QSpec Try.prog W 21 [.pointer (some ⟨p, 0, none⟩)] (X :: dueRow p A c [⟨5, 1, 1⟩] h') (.int .i64 1) := fun p A c X =>
    (due_Len W p A c [⟨5, 1, 1⟩]).mono (by intro c hc; simp only [dueRow, List.mem_cons, List.not_mem_nil, or_false] at hc ⊢; rcases hc with rfl | rfl <;> simp)
  repeat' (first
    | apply aw_seq | apply aw_region | apply aw_ret | apply aw_skip | apply aw_exit | apply aw_block | apply es_nil
    | (apply es_pure hT; (iterate 4 exact rfl)) | (apply es_skip; (iterate 3 exact rfl)) | (apply es_skip0; (iterate 2 exact rfl))
    | (apply es_i64 hT; (iterate 4 exact rfl); (iterate 2 omega))
    | (apply aw_draw [] [] hmix; decide +kernel)
    | (apply es_call (hs := (due_New W _)); (iterate 7 exact rfl); rintro _ _ ⟨p, A, c, rfl, rfl⟩)
    | (apply es_build hT; (iterate 4 exact rfl))
    | (apply es_call (hs := (hadd1 _ _ _)); (iterate 7 exact rfl); rintro _ _ ⟨rfl, A1, c1, rfl⟩)
    | (apply es_call (hs := (hadd2 _ _ _)); (iterate 7 exact rfl); rintro _ _ ⟨rfl, A2, c2, rfl⟩)
    | (apply es_call (hs := (htake _ _ _)); (iterate 7 exact rfl); rintro _ _ ⟨A3, c3, A4, c4, rfl, rfl, hf⟩)
    | (apply es_callQ (hs := (hlen _ _ _ _)); (iterate 7 exact rfl))
    | (apply es_idx hT; (iterate 8 exact rfl); (iterate 2 omega); exact hf.some_ (by omega))
    | (apply es_load; (iterate 5 exact rfl); exact ld_fld hT rfl rfl (hf.reads mem0) Due.enc_len (adr_add _ _ _) (rfl : ([⟨3, 1, 2⟩] : List Due)[0]? = some ⟨3, 1, 2⟩) (by decide) rfl)
    | (apply es_load; (iterate 5 exact rfl); first | exact ld_blk hT rfl rfl mem0 rfl rfl | exact ld_all hT rfl rfl mem0 rfl)
    | (apply es_load; (iterate 5 exact rfl); first | exact ld_blk hT rfl rfl mem1 rfl rfl | exact ld_all hT rfl rfl mem1 rfl)
    | (apply es_load; (iterate 5 exact rfl); first | exact ld_blk hT rfl rfl mem2 rfl rfl | exact ld_all hT rfl rfl mem2 rfl)
    | (apply es_box; (iterate 5 exact rfl); intro _) | (apply es_alloc hT; (iterate 5 exact rfl); intro _)
    | (apply aw_condT; (iterate 2 exact rfl)) | (apply aw_condF; (iterate 2 exact rfl))
    | (apply es_case; exact rfl; all_goals intro hb; all_goals (try simp only [hb]); all_goals (first | replace hb := of_decide_eq_true hb | replace hb := of_decide_eq_false hb | replace hb := bne_t hb | replace hb := bne_f hb | skip); all_goals (try (exfalso; omega)))
    | (apply aw_cond; exact rfl; all_goals intro hb; all_goals (try simp only [hb]); all_goals (first | replace hb := of_decide_eq_true hb | replace hb := of_decide_eq_false hb | replace hb := bne_t hb | replace hb := bne_f hb | skip); all_goals (try (exfalso; omega))))
  apply ret1; exact rfl
  exact ⟨rfl, dt_skip (dt_skip (dt_skip dt_end))⟩

theorem due_Drops (W : World) (A0 : Option Addr) (c0 : Nat) (ds : List Due) (hr0 : Reads W [] A0 ds.length 3 (ds.flatMap Due.enc)) (hok : ∀ d ∈ ds, Due.ok d) (at_ : Int) :
    FSpec Try.prog W 4 [.slice A0 ds.length c0, .int .i64 at_] [] (fun v _ => v = .bool true) := by
  refine spec_body Try.func4 rfl rfl Try.results4 Try.ntmps4 rfl rfl ?_
  refine aw_reads hr0 (by rfl) (fun hA0 => ?_)
  by_cases h1 : ds.length < 1
  · repeat' (first
      | apply aw_seq | apply aw_region | apply aw_ret | apply aw_skip | apply aw_exit | apply aw_block | apply es_nil
      | (apply es_pure hT; (iterate 4 exact rfl)) | (apply es_skip; (iterate 3 exact rfl)) | (apply es_skip0; (iterate 2 exact rfl))
      | (apply es_i64 hT; (iterate 4 exact rfl); (iterate 2 omega))
      | (apply aw_draw [] [] hmix; decide +kernel)
      | (apply es_load; (iterate 5 exact rfl); first | exact ld_blk hT rfl rfl mem0 rfl rfl | exact ld_all hT rfl rfl mem0 rfl)
      | (apply es_load; (iterate 5 exact rfl); first | exact ld_blk hT rfl rfl mem1 rfl rfl | exact ld_all hT rfl rfl mem1 rfl)
      | (apply es_load; (iterate 5 exact rfl); first | exact ld_blk hT rfl rfl mem2 rfl rfl | exact ld_all hT rfl rfl mem2 rfl)
      | (apply es_box; (iterate 5 exact rfl); intro _) | (apply es_alloc hT; (iterate 5 exact rfl); intro _)
      | (apply aw_condT; (iterate 2 exact rfl)) | (apply aw_condF; (iterate 2 exact rfl))
      | (apply es_case; exact rfl; all_goals intro hb; all_goals (try simp only [hb]); all_goals (first | replace hb := of_decide_eq_true hb | replace hb := of_decide_eq_false hb | replace hb := bne_t hb | replace hb := bne_f hb | skip); all_goals (try (exfalso; omega)))
      | (apply aw_cond; exact rfl; all_goals intro hb; all_goals (try simp only [hb]); all_goals (first | replace hb := of_decide_eq_true hb | replace hb := of_decide_eq_false hb | replace hb := bne_t hb | replace hb := bne_f hb | skip); all_goals (try (exfalso; omega))))
    apply ret1; exact rfl; exact rfl
  by_cases h40 : ds.length > 40
  · repeat' (first
      | apply aw_seq | apply aw_region | apply aw_ret | apply aw_skip | apply aw_exit | apply aw_block | apply es_nil
      | (apply es_pure hT; (iterate 4 exact rfl)) | (apply es_skip; (iterate 3 exact rfl)) | (apply es_skip0; (iterate 2 exact rfl))
      | (apply es_i64 hT; (iterate 4 exact rfl); (iterate 2 omega))
      | (apply aw_draw [] [] hmix; decide +kernel)
      | (apply es_load; (iterate 5 exact rfl); first | exact ld_blk hT rfl rfl mem0 rfl rfl | exact ld_all hT rfl rfl mem0 rfl)
      | (apply es_load; (iterate 5 exact rfl); first | exact ld_blk hT rfl rfl mem1 rfl rfl | exact ld_all hT rfl rfl mem1 rfl)
      | (apply es_load; (iterate 5 exact rfl); first | exact ld_blk hT rfl rfl mem2 rfl rfl | exact ld_all hT rfl rfl mem2 rfl)
      | (apply es_box; (iterate 5 exact rfl); intro _) | (apply es_alloc hT; (iterate 5 exact rfl); intro _)
      | (apply aw_condT; (iterate 2 exact rfl)) | (apply aw_condF; (iterate 2 exact rfl))
      | (apply es_case; exact rfl; all_goals intro hb; all_goals (try simp only [hb]); all_goals (first | replace hb := of_decide_eq_true hb | replace hb := of_decide_eq_false hb | replace hb := bne_t hb | replace hb := bne_f hb | skip); all_goals (try (exfalso; omega)))
      | (apply aw_cond; exact rfl; all_goals intro hb; all_goals (try simp only [hb]); all_goals (first | replace hb := of_decide_eq_true hb | replace hb := of_decide_eq_false hb | replace hb := bne_t hb | replace hb := bne_f hb | skip); all_goals (try (exfalso; omega))))
    apply ret1; exact rfl; exact rfl
  have hA : A0.isSome = true := hA0 (by omega)
  repeat' (first
    | apply aw_seq | apply aw_region | apply aw_ret | apply aw_skip | apply aw_exit | apply aw_block | apply es_nil
    | (apply es_pure hT; (iterate 4 exact rfl)) | (apply es_skip; (iterate 3 exact rfl)) | (apply es_skip0; (iterate 2 exact rfl))
    | (apply es_i64 hT; (iterate 4 exact rfl); (iterate 2 omega))
    | (apply aw_draw [] [] hmix; decide +kernel)
    | (apply es_call (hs := (due_New W _)); (iterate 7 exact rfl); rintro _ _ ⟨p, A, c, rfl, rfl⟩)
    | (apply es_load; (iterate 5 exact rfl); first | exact ld_blk hT rfl rfl mem0 rfl rfl | exact ld_all hT rfl rfl mem0 rfl)
    | (apply es_load; (iterate 5 exact rfl); first | exact ld_blk hT rfl rfl mem1 rfl rfl | exact ld_all hT rfl rfl mem1 rfl)
    | (apply es_load; (iterate 5 exact rfl); first | exact ld_blk hT rfl rfl mem2 rfl rfl | exact ld_all hT rfl rfl mem2 rfl)
    | (apply es_box; (iterate 5 exact rfl); intro _) | (apply es_alloc hT; (iterate 5 exact rfl); intro _)
    | (apply aw_condT; (iterate 2 exact rfl)) | (apply aw_condF; (iterate 2 exact rfl))
    | (apply es_case; exact rfl; all_goals intro hb; all_goals (try simp only [hb]); all_goals (first | replace hb := of_decide_eq_true hb | replace hb := of_decide_eq_false hb | replace hb := bne_t hb | replace hb := bne_f hb | skip); all_goals (try (exfalso; omega)))
    | (apply aw_cond; exact rfl; all_goals intro hb; all_goals (try simp only [hb]); all_goals (first | replace hb := of_decide_eq_true hb | replace hb := of_decide_eq_false hb | replace hb := bne_t hb | replace hb := bne_f hb | skip); all_goals (try (exfalso; omega))))
  refine aw_loop (α := Nat × Option Addr × Nat) (E := fun x => [(0, .slice A0 ds.length c0), (1, .int .i64 at_), (5, .pointer (some ⟨p, 0, none⟩)), (6, .int .i64 x.1)]) (H := fun x => dueRow p x.2.1 x.2.2 (addAll [] (ds.take x.1)) []) (μ := fun x => ds.length - x.1)
    (S := fun x => x.1 ≤ ds.length) (0, A, c) (J := []) (Nat.zero_le _) ⟨rfl, rfl, rfl, rfl, trivial⟩ (List.Perm.refl _) ?_
  rintro ⟨k, A1, c1⟩ hk
  dsimp only at hk ⊢
  have hlen : (addAll [] (ds.take k)).length ≤ 40 := by have := addAll_len (l := []) (ds := ds.take k); simp at this; omega
  have hrow : RowD (addAll [] (ds.take k)) := addAll_row RowD.nil
  by_cases hlt : k < ds.length
  · obtain ⟨x, hx⟩ : ∃ x, ds[k]? = some x := ⟨ds[k]'(by omega), List.getElem?_eq_getElem (by omega)⟩
    have hx2 : ds[(k : Int).toNat]? = some x := by simpa using hx
    have hd : decide ((k : Int) < (ds.length : Int)) = true := by simp; omega
    have hadd := due_Add W [] p A1 c1 (addAll [] (ds.take k)) x (by omega) hrow.mono
    rw [← addAll_step hx] at hadd
    repeat' (first
      | apply aw_seq | apply aw_region | apply aw_ret | apply aw_skip | apply aw_exit | apply aw_block | apply es_nil
      | (apply es_pure hT; (iterate 4 exact rfl)) | (apply es_skip; (iterate 3 exact rfl)) | (apply es_skip0; (iterate 2 exact rfl))
      | (apply es_i64 hT; (iterate 4 exact rfl); (iterate 2 omega))
      | (apply aw_draw [] [] hmix; decide +kernel)
      | (apply es_idx hT; (iterate 8 exact rfl); (iterate 2 omega); exact hA)
      | (apply es_load; (iterate 5 exact rfl); exact ld_elem hT rfl rfl (hr0.mono (by simp)) Due.enc_len rfl hx2 rfl)
      | (apply es_call (hs := hadd); (iterate 7 exact rfl); rintro _ _ ⟨rfl, A2, c2, rfl⟩)
      | (apply es_load; (iterate 5 exact rfl); first | exact ld_blk hT rfl rfl mem0 rfl rfl | exact ld_all hT rfl rfl mem0 rfl)
      | (apply es_load; (iterate 5 exact rfl); first | exact ld_blk hT rfl rfl mem1 rfl rfl | exact ld_all hT rfl rfl mem1 rfl)
      | (apply es_load; (iterate 5 exact rfl); first | exact ld_blk hT rfl rfl mem2 rfl rfl | exact ld_all hT rfl rfl mem2 rfl)
      | (apply es_box; (iterate 5 exact rfl); intro _) | (apply es_alloc hT; (iterate 5 exact rfl); intro _)
      | (apply aw_condT; (iterate 2 exact rfl)) | (apply aw_condF; (iterate 2 exact rfl))
      | (apply es_case; exact rfl; all_goals intro hb; all_goals (try simp only [hb]); all_goals (first | replace hb := of_decide_eq_true hb | replace hb := of_decide_eq_false hb | replace hb := bne_t hb | replace hb := bne_f hb | skip); all_goals (try (exfalso; omega)))
      | (apply aw_cond; exact rfl; all_goals intro hb; all_goals (try simp only [hb]); all_goals (first | replace hb := of_decide_eq_true hb | replace hb := of_decide_eq_false hb | replace hb := bne_t hb | replace hb := bne_f hb | skip); all_goals (try (exfalso; omega))))
    exact ⟨(k + 1, A2, c2), [], by dsimp only; omega, by dsimp only; omega, ⟨rfl, rfl, rfl, rfl, trivial⟩, List.Perm.refl _⟩
  · obtain rfl : k = ds.length := by omega
    rw [List.take_length] at hlen hrow ⊢
    generalize hl : addAll [] ds = l at hlen hrow ⊢
    have hd : decide ((ds.length : Int) < (ds.length : Int)) = false := by simp
    repeat' (first
      | apply aw_seq | apply aw_region | apply aw_ret | apply aw_skip | apply aw_exit | apply aw_block | apply es_nil
      | (apply es_pure hT; (iterate 4 exact rfl)) | (apply es_skip; (iterate 3 exact rfl)) | (apply es_skip0; (iterate 2 exact rfl))
      | (apply es_i64 hT; (iterate 4 exact rfl); (iterate 2 omega))
      | (apply aw_draw [] [] hmix; decide +kernel)
      | (apply es_mask (m := 65535); (iterate 5 exact rfl); omega; intro m hm)
      | (apply es_load; (iterate 5 exact rfl); first | exact ld_blk hT rfl rfl mem0 rfl rfl | exact ld_all hT rfl rfl mem0 rfl)
      | (apply es_load; (iterate 5 exact rfl); first | exact ld_blk hT rfl rfl mem1 rfl rfl | exact ld_all hT rfl rfl mem1 rfl)
      | (apply es_load; (iterate 5 exact rfl); first | exact ld_blk hT rfl rfl mem2 rfl rfl | exact ld_all hT rfl rfl mem2 rfl)
      | (apply es_box; (iterate 5 exact rfl); intro _) | (apply es_alloc hT; (iterate 5 exact rfl); intro _)
      | (apply aw_condT; (iterate 2 exact rfl)) | (apply aw_condF; (iterate 2 exact rfl))
      | (apply es_case; exact rfl; all_goals intro hb; all_goals (try simp only [hb]); all_goals (first | replace hb := of_decide_eq_true hb | replace hb := of_decide_eq_false hb | replace hb := bne_t hb | replace hb := bne_f hb | skip); all_goals (try (exfalso; omega)))
      | (apply aw_cond; exact rfl; all_goals intro hb; all_goals (try simp only [hb]); all_goals (first | replace hb := of_decide_eq_true hb | replace hb := of_decide_eq_false hb | replace hb := bne_t hb | replace hb := bne_f hb | skip); all_goals (try (exfalso; omega))))
    obtain ⟨i, hi, hil⟩ : ∃ i : Nat, (m : Int) % (ds.length : Int) = i ∧ i < ds.length := ⟨m % ds.length, by simp, Nat.mod_lt _ (by omega)⟩
    obtain ⟨d, hdx⟩ : ∃ d, ds[i]? = some d := ⟨ds[i]'(by omega), List.getElem?_eq_getElem (by omega)⟩
    have hdx2 : ds[((m : Int) % (ds.length : Int)).toNat]? = some d := by rw [hi]; simpa using hdx
    have hdm : d ∈ ds := List.mem_of_getElem? hdx
    obtain ⟨y, hyl, hyk⟩ : ∃ x ∈ l, keyD x d := by rw [← hl]; exact addAll_has hdm
    have hfound : ¬ idxOf (hasD d.kind d.id) l < 0 := has_found ⟨y, hyl, hyk⟩
    have hnone := dropD_none (kind := d.kind) (id := d.id) hrow
    generalize hl2 : dropD l d.kind d.id = l2 at hnone
    have hlen2 : l2.length = l.length - 1 := by rw [← hl2]; exact dropD_len hfound
    have hlpos : 0 < l.length := List.length_pos_of_mem hyl
    have hgone : idxOf (hasD d.kind d.id) l2 < 0 := by
      rw [idxOf_neg]; intro x hx; have := hnone x hx
      cases hh : hasD d.kind d.id x
      · rfl
      · exact absurd (hasD_iff.1 hh) this
    have htick : ∀ x ∈ l2, x.tick ≤ 9223372036854775807 := fun x hx => by
      have h1 : x ∈ l := by rw [← hl2] at hx; exact dropD_sub.subset hx
      rw [← hl] at h1
      rcases addAll_from h1 with h | h
      · cases h
      · exact (hok x h).1.2
    have htn : takeN l2 9223372036854775807 = l2.length := takeN_all htick
    have hadd : ∀ g, FSpec Try.prog W 20 [.pointer (some ⟨p, 0, none⟩), .agg d.enc.toArray] (.blk g 39 d.enc :: dueRow p A1 c1 l []) (fun v k => v = .bool false ∧ ∃ A' c', k = dueRow p A' c' l [.blk g 39 d.enc]) := fun g =>
      ((due_Add W [.blk g 39 d.enc] p A1 c1 l d (by omega) hrow.mono).perm (selS (selS sel0)).symm).mono (fun v k h => by
        rw [show addD l d = l by simp [addD, hfound]] at h
        simpa [hfound] using h)
    have hdrop1 : ∀ X A c, FSpec Try.prog W 22 [.pointer (some ⟨p, 0, none⟩), .int .i64 d.kind, .int .i64 d.id] (dueRow p A c l [X]) (fun v k => v = .bool true ∧ ∃ A' c', k = dueRow p A' c' l2 [X]) := fun X A c =>
      (due_Drop W [X] p A c l d.kind d.id (by omega)).mono (fun v k h => by rw [hl2] at h; simpa [hfound] using h)
    have hdrop2 : ∀ X A c, FSpec Try.prog W 22 [.pointer (some ⟨p, 0, none⟩), .int .i64 d.kind, .int .i64 d.id] (dueRow p A c l2 [X]) (fun v k => v = .bool false ∧ ∃ A' c', k = dueRow p A' c' l2 [X]) := fun X A c =>
      (due_Drop W [X] p A c l2 d.kind d.id (by omega)).mono (fun v k h => by rw [show dropD l2 d.kind d.id = l2 by simp [dropD, hgone]] at h; simpa [hgone] using h)
    have hlen1 : ∀ X, QSpec Try.prog W 21 [.pointer (some ⟨p, 0, none⟩)] (X :: dueRow p A1 c1 l []) (.int .i64 l.length) := fun X =>
      (due_Len W p A1 c1 l).mono (by intro c hc; simp only [dueRow, List.mem_cons, List.not_mem_nil, or_false] at hc ⊢; rcases hc with rfl | rfl <;> simp)
    have hlen3 : ∀ A c X, QSpec Try.prog W 21 [.pointer (some ⟨p, 0, none⟩)] (dueRow p A c l2 [X]) (.int .i64 (l.length - 1)) := fun A c X =>
      ((due_Len W p A c l2).mono (by intro c hc; simp only [dueRow, List.mem_cons, List.not_mem_nil, or_false] at hc ⊢; rcases hc with rfl | rfl <;> simp)).cast (by rw [hlen2]; congr 1; omega)
    have htake : ∀ X A c, FSpec Try.prog W 23 [.pointer (some ⟨p, 0, none⟩), .int .i64 9223372036854775807] (dueRow p A c l2 [X])
        (fun v k => ∃ A1 c1 A2 c2, v = .slice A1 l2.length c1 ∧ k = .own A1 l2.length c1 39 3 (l2.flatMap Due.enc) :: dueRow p A2 c2 [] [X] ∧ OwnF A1 l2.length c1 3 (l2.flatMap Due.enc)) := fun X A c =>
      (due_TakeF W [X] p A c l2 9223372036854775807 (by omega)).mono (fun v k h => by rw [htn, List.take_length, List.drop_length] at h; exact h)
    repeat' (first
      | apply aw_seq | apply aw_region | apply aw_ret | apply aw_skip | apply aw_exit | apply aw_block | apply es_nil
      | (apply es_pure hT; (iterate 4 exact rfl)) | (apply es_skip; (iterate 3 exact rfl)) | (apply es_skip0; (iterate 2 exact rfl))
      | (apply es_i64 hT; (iterate 4 exact rfl); (iterate 2 omega))
      | (apply aw_draw [] [] hmix; decide +kernel)
      | (apply es_rem; (iterate 5 exact rfl); (iterate 2 omega))
      | (apply es_idx hT; (iterate 8 exact rfl); (iterate 2 omega); exact hA)
      | (apply es_load; (iterate 5 exact rfl); exact ld_elem hT rfl rfl (hr0.mono (by simp)) Due.enc_len rfl hdx2 rfl)
      | (apply es_alloc hT; (iterate 5 exact rfl); intro gb)
      | (apply es_store hT; (iterate 6 exact rfl); exact sel0; (iterate 3 exact rfl); exact Nat.le_of_ble_eq_true rfl)
      | (apply es_callQ (hs := (hlen1 _)); (iterate 7 exact rfl))
      | (apply es_call (hs := (hadd _)); (iterate 7 exact rfl); rintro _ _ ⟨rfl, A2, c2, rfl⟩)
      | (apply es_call (hs := (hdrop1 _ _ _)); (iterate 7 exact rfl); rintro _ _ ⟨rfl, A3, c3, rfl⟩)
      | (apply es_call (hs := (hdrop2 _ _ _)); (iterate 7 exact rfl); rintro _ _ ⟨rfl, A4, c4, rfl⟩)
      | (apply es_callQ (hs := (hlen3 _ _ _)); (iterate 7 exact rfl))
      | (apply es_call (hs := (htake _ _ _)); (iterate 7 exact rfl); rintro _ _ ⟨A5, c5, A6, c6, rfl, rfl, hf⟩)
      | (apply es_load; (iterate 5 exact rfl); first | exact ld_blk hT rfl rfl mem0 rfl rfl | exact ld_all hT rfl rfl mem0 rfl)
      | (apply es_load; (iterate 5 exact rfl); first | exact ld_blk hT rfl rfl mem1 rfl rfl | exact ld_all hT rfl rfl mem1 rfl)
      | (apply es_load; (iterate 5 exact rfl); first | exact ld_blk hT rfl rfl mem2 rfl rfl | exact ld_all hT rfl rfl mem2 rfl)
      | (apply es_load; (iterate 5 exact rfl); first | exact ld_blk hT rfl rfl mem0 rfl rfl | exact ld_all hT rfl rfl mem0 rfl)
      | (apply es_load; (iterate 5 exact rfl); first | exact ld_blk hT rfl rfl (List.mem_cons_of_mem _ mem0) rfl rfl | exact ld_all hT rfl rfl (List.mem_cons_of_mem _ mem0) rfl)
      | (apply es_load; (iterate 5 exact rfl); first | exact ld_blk hT rfl rfl mem1 rfl rfl | exact ld_all hT rfl rfl mem1 rfl)
      | (apply es_load; (iterate 5 exact rfl); first | exact ld_blk hT rfl rfl (List.mem_cons_of_mem _ mem1) rfl rfl | exact ld_all hT rfl rfl (List.mem_cons_of_mem _ mem1) rfl)
      | (apply es_box; (iterate 5 exact rfl); intro _) | (apply es_alloc hT; (iterate 5 exact rfl); intro _)
      | (apply aw_condT; (iterate 2 exact rfl)) | (apply aw_condF; (iterate 2 exact rfl))
      | (apply es_case; exact rfl; all_goals intro hb; all_goals (try simp only [hb]); all_goals (first | replace hb := of_decide_eq_true hb | replace hb := of_decide_eq_false hb | replace hb := bne_t hb | replace hb := bne_f hb | skip); all_goals (try (exfalso; omega)))
      | (apply aw_cond; exact rfl; all_goals intro hb; all_goals (try simp only [hb]); all_goals (first | replace hb := of_decide_eq_true hb | replace hb := of_decide_eq_false hb | replace hb := bne_t hb | replace hb := bne_f hb | skip); all_goals (try (exfalso; omega))))
    refine aw_loop (α := Nat) (E := fun j => [(5, .pointer (some ⟨p, 0, none⟩)), (7, .pointer (some ⟨gb, 0, none⟩)), (8, .int .i64 l.length), (9, .slice A5 l2.length c5), (10, .int .i64 j)]) (H := fun _ => .own A5 l2.length c5 39 3 (l2.flatMap Due.enc) :: dueRow p A6 c6 [] [.blk gb 39 d.enc]) (μ := fun j => l2.length - j)
      (S := fun j => j ≤ l2.length) 0 (J := []) (Nat.zero_le _) ⟨rfl, rfl, rfl, rfl, rfl, trivial⟩ (List.Perm.refl _) ?_
    intro j hj
    by_cases hjl : j < l2.length
    · obtain ⟨x, hx⟩ : ∃ x, l2[j]? = some x := ⟨l2[j]'(by omega), List.getElem?_eq_getElem (by omega)⟩
      have hx2 : l2[(j : Int).toNat]? = some x := by simpa using hx
      have hxn := hnone x (List.mem_of_getElem? hx)
      have hd1 : decide ((j : Int) < (l2.length : Int)) = true := by simp; omega
      have hA5 := hf.some_ (by omega)
      repeat' (first
        | apply aw_seq | apply aw_region | apply aw_ret | apply aw_skip | apply aw_exit | apply aw_block | apply es_nil
        | (apply es_pure hT; (iterate 4 exact rfl)) | (apply es_skip; (iterate 3 exact rfl)) | (apply es_skip0; (iterate 2 exact rfl))
        | (apply es_i64 hT; (iterate 4 exact rfl); (iterate 2 omega))
        | (apply aw_draw [] [] hmix; decide +kernel)
        | (apply es_idx hT; (iterate 8 exact rfl); (iterate 2 omega); exact hA5)
        | (apply es_load; (iterate 5 exact rfl); exact ld_fld hT rfl rfl (hf.reads mem0) Due.enc_len (adr_add _ _ _) hx2 (by decide) rfl)
        | (apply es_load; (iterate 5 exact rfl); first | exact ld_blk hT rfl rfl mem0 rfl rfl | exact ld_all hT rfl rfl mem0 rfl)
        | (apply es_load; (iterate 5 exact rfl); first | exact ld_blk hT rfl rfl mem1 rfl rfl | exact ld_all hT rfl rfl mem1 rfl)
        | (apply es_load; (iterate 5 exact rfl); first | exact ld_blk hT rfl rfl mem2 rfl rfl | exact ld_all hT rfl rfl mem2 rfl)
        | (apply es_load; (iterate 5 exact rfl); first | exact ld_blk hT rfl rfl mem2 rfl rfl | exact ld_all hT rfl rfl mem2 rfl)
        | (apply es_load; (iterate 5 exact rfl); first | exact ld_blk hT rfl rfl (List.mem_cons_of_mem _ mem2) rfl rfl | exact ld_all hT rfl rfl (List.mem_cons_of_mem _ mem2) rfl)
        | (apply es_load; (iterate 5 exact rfl); first | exact ld_blk hT rfl rfl (List.mem_cons_of_mem _ (List.mem_cons_of_mem _ mem2)) rfl rfl | exact ld_all hT rfl rfl (List.mem_cons_of_mem _ (List.mem_cons_of_mem _ mem2)) rfl)
        | (apply es_load; (iterate 5 exact rfl); first | exact ld_blk hT rfl rfl (List.mem_cons_of_mem _ (List.mem_cons_of_mem _ (List.mem_cons_of_mem _ mem2))) rfl rfl | exact ld_all hT rfl rfl (List.mem_cons_of_mem _ (List.mem_cons_of_mem _ (List.mem_cons_of_mem _ mem2))) rfl)
        | (apply es_box; (iterate 5 exact rfl); intro _) | (apply es_alloc hT; (iterate 5 exact rfl); intro _)
        | (apply aw_condT; (iterate 2 exact rfl)) | (apply aw_condF; (iterate 2 exact rfl))
        | (apply es_case; exact rfl; all_goals intro hb; all_goals (try simp only [hb]); all_goals (first | replace hb := of_decide_eq_true hb | replace hb := of_decide_eq_false hb | replace hb := bne_t hb | replace hb := bne_f hb | skip); all_goals (try (exfalso; omega)))
        | (apply aw_cond; exact rfl; all_goals intro hb; all_goals (try simp only [hb]); all_goals (first | replace hb := of_decide_eq_true hb | replace hb := of_decide_eq_false hb | replace hb := bne_t hb | replace hb := bne_f hb | skip); all_goals (try (exfalso; omega))))
      all_goals first
        | exact absurd ⟨‹_›, ‹_›⟩ hxn
        | exact ⟨j + 1, [], by dsimp only; omega, by dsimp only; omega, ⟨rfl, rfl, rfl, rfl, rfl, trivial⟩, List.Perm.refl _⟩
    · obtain rfl : j = l2.length := by omega
      have hd1 : decide ((l2.length : Int) < (l2.length : Int)) = false := by simp
      have he : ((l2.length : Int) == (l.length : Int) - 1) = true := by rw [hlen2]; simp; omega
      have hk := due_known W
      repeat' (first
        | apply aw_seq | apply aw_region | apply aw_ret | apply aw_skip | apply aw_exit | apply aw_block | apply es_nil
        | (apply es_pure hT; (iterate 4 exact rfl)) | (apply es_skip; (iterate 3 exact rfl)) | (apply es_skip0; (iterate 2 exact rfl))
        | (apply es_i64 hT; (iterate 4 exact rfl); (iterate 2 omega))
        | (apply aw_draw [] [] hmix; decide +kernel)
        | (apply es_callQ (hs := (hk.mono (by simp))); (iterate 7 exact rfl))
        | (apply es_load; (iterate 5 exact rfl); first | exact ld_blk hT rfl rfl mem0 rfl rfl | exact ld_all hT rfl rfl mem0 rfl)
        | (apply es_load; (iterate 5 exact rfl); first | exact ld_blk hT rfl rfl mem1 rfl rfl | exact ld_all hT rfl rfl mem1 rfl)
        | (apply es_load; (iterate 5 exact rfl); first | exact ld_blk hT rfl rfl mem2 rfl rfl | exact ld_all hT rfl rfl mem2 rfl)
        | (apply es_box; (iterate 5 exact rfl); intro _) | (apply es_alloc hT; (iterate 5 exact rfl); intro _)
        | (apply aw_condT; (iterate 2 exact rfl)) | (apply aw_condF; (iterate 2 exact rfl))
        | (apply es_case; exact rfl; all_goals intro hb; all_goals (try simp only [hb]); all_goals (first | replace hb := of_decide_eq_true hb | replace hb := of_decide_eq_false hb | replace hb := bne_t hb | replace hb := bne_f hb | skip); all_goals (try (exfalso; omega)))
        | (apply aw_cond; exact rfl; all_goals intro hb; all_goals (try simp only [hb]); all_goals (first | replace hb := of_decide_eq_true hb | replace hb := of_decide_eq_false hb | replace hb := bne_t hb | replace hb := bne_f hb | skip); all_goals (try (exfalso; omega))))
      apply ret1; exact rfl; exact rfl

def encI (n : Int) : List Value := [.int .i64 n]
theorem encI_len (n : Int) : (encI n).length = 1 := rfl


theorem due_All (W : World) (A0 : Option Addr) (c0 : Nat) (ds : List Due) (hr0 : Reads W [] A0 ds.length 3 (ds.flatMap Due.enc)) (hok : ∀ d ∈ ds, Due.ok d)
    (B0 : Option Addr) (b0 : Nat) (at_ : List Int) (hr1 : Reads W [] B0 at_.length 1 (at_.flatMap encI)) :
    FSpec Try.prog W 6 [.slice A0 ds.length c0, .slice B0 at_.length b0] [] (fun v _ => v = .bool true) := by
  refine spec_body Try.func6 rfl rfl Try.results6 Try.ntmps6 rfl rfl ?_
  refine aw_reads hr0 (by rfl) (fun hA0 => ?_)
  refine aw_reads hr1 (by rfl) (fun hB0 => ?_)
  by_cases h1 : ds.length > 60
  · repeat' (first
      | apply aw_seq | apply aw_region | apply aw_ret | apply aw_skip | apply aw_exit | apply aw_block | apply es_nil
      | (apply es_pure hT; (iterate 4 exact rfl)) | (apply es_skip; (iterate 3 exact rfl)) | (apply es_skip0; (iterate 2 exact rfl))
      | (apply es_i64 hT; (iterate 4 exact rfl); (iterate 2 omega))
      | (apply aw_draw [] [] hmix; decide +kernel)
      | (apply es_load; (iterate 5 exact rfl); first | exact ld_blk hT rfl rfl mem0 rfl rfl | exact ld_all hT rfl rfl mem0 rfl)
      | (apply es_load; (iterate 5 exact rfl); first | exact ld_blk hT rfl rfl mem1 rfl rfl | exact ld_all hT rfl rfl mem1 rfl)
      | (apply es_load; (iterate 5 exact rfl); first | exact ld_blk hT rfl rfl mem2 rfl rfl | exact ld_all hT rfl rfl mem2 rfl)
      | (apply es_box; (iterate 5 exact rfl); intro _) | (apply es_alloc hT; (iterate 5 exact rfl); intro _)
      | (apply aw_condT; (iterate 2 exact rfl)) | (apply aw_condF; (iterate 2 exact rfl))
      | (apply es_case; exact rfl; all_goals intro hb; all_goals (try simp only [hb]); all_goals (first | replace hb := of_decide_eq_true hb | replace hb := of_decide_eq_false hb | replace hb := bne_t hb | replace hb := bne_f hb | skip); all_goals (try (exfalso; omega)))
      | (apply aw_cond; exact rfl; all_goals intro hb; all_goals (try simp only [hb]); all_goals (first | replace hb := of_decide_eq_true hb | replace hb := of_decide_eq_false hb | replace hb := bne_t hb | replace hb := bne_f hb | skip); all_goals (try (exfalso; omega))))
    apply ret1; exact rfl; exact rfl
  by_cases h40 : at_.length > 20
  · repeat' (first
      | apply aw_seq | apply aw_region | apply aw_ret | apply aw_skip | apply aw_exit | apply aw_block | apply es_nil
      | (apply es_pure hT; (iterate 4 exact rfl)) | (apply es_skip; (iterate 3 exact rfl)) | (apply es_skip0; (iterate 2 exact rfl))
      | (apply es_i64 hT; (iterate 4 exact rfl); (iterate 2 omega))
      | (apply aw_draw [] [] hmix; decide +kernel)
      | (apply es_load; (iterate 5 exact rfl); first | exact ld_blk hT rfl rfl mem0 rfl rfl | exact ld_all hT rfl rfl mem0 rfl)
      | (apply es_load; (iterate 5 exact rfl); first | exact ld_blk hT rfl rfl mem1 rfl rfl | exact ld_all hT rfl rfl mem1 rfl)
      | (apply es_load; (iterate 5 exact rfl); first | exact ld_blk hT rfl rfl mem2 rfl rfl | exact ld_all hT rfl rfl mem2 rfl)
      | (apply es_box; (iterate 5 exact rfl); intro _) | (apply es_alloc hT; (iterate 5 exact rfl); intro _)
      | (apply aw_condT; (iterate 2 exact rfl)) | (apply aw_condF; (iterate 2 exact rfl))
      | (apply es_case; exact rfl; all_goals intro hb; all_goals (try simp only [hb]); all_goals (first | replace hb := of_decide_eq_true hb | replace hb := of_decide_eq_false hb | replace hb := bne_t hb | replace hb := bne_f hb | skip); all_goals (try (exfalso; omega)))
      | (apply aw_cond; exact rfl; all_goals intro hb; all_goals (try simp only [hb]); all_goals (first | replace hb := of_decide_eq_true hb | replace hb := of_decide_eq_false hb | replace hb := bne_t hb | replace hb := bne_f hb | skip); all_goals (try (exfalso; omega))))
    apply ret1; exact rfl; exact rfl
  repeat' (first
    | apply aw_seq | apply aw_region | apply aw_ret | apply aw_skip | apply aw_exit | apply aw_block | apply es_nil
    | (apply es_pure hT; (iterate 4 exact rfl)) | (apply es_skip; (iterate 3 exact rfl)) | (apply es_skip0; (iterate 2 exact rfl))
    | (apply es_i64 hT; (iterate 4 exact rfl); (iterate 2 omega))
    | (apply aw_draw [] [] hmix; decide +kernel)
    | (apply es_call (hs := (due_New W _)); (iterate 7 exact rfl); rintro _ _ ⟨p, A, c, rfl, rfl⟩)
    | (apply es_load; (iterate 5 exact rfl); first | exact ld_blk hT rfl rfl mem0 rfl rfl | exact ld_all hT rfl rfl mem0 rfl)
    | (apply es_load; (iterate 5 exact rfl); first | exact ld_blk hT rfl rfl mem1 rfl rfl | exact ld_all hT rfl rfl mem1 rfl)
    | (apply es_load; (iterate 5 exact rfl); first | exact ld_blk hT rfl rfl mem2 rfl rfl | exact ld_all hT rfl rfl mem2 rfl)
    | (apply es_box; (iterate 5 exact rfl); intro _) | (apply es_alloc hT; (iterate 5 exact rfl); intro _)
    | (apply aw_condT; (iterate 2 exact rfl)) | (apply aw_condF; (iterate 2 exact rfl))
    | (apply es_case; exact rfl; all_goals intro hb; all_goals (try simp only [hb]); all_goals (first | replace hb := of_decide_eq_true hb | replace hb := of_decide_eq_false hb | replace hb := bne_t hb | replace hb := bne_f hb | skip); all_goals (try (exfalso; omega)))
    | (apply aw_cond; exact rfl; all_goals intro hb; all_goals (try simp only [hb]); all_goals (first | replace hb := of_decide_eq_true hb | replace hb := of_decide_eq_false hb | replace hb := bne_t hb | replace hb := bne_f hb | skip); all_goals (try (exfalso; omega))))
  refine aw_loop (α := Nat × Int × Option Addr × Nat) (E := fun x => [(0, .slice A0 ds.length c0), (1, .slice B0 at_.length b0), (5, .pointer (some ⟨p, 0, none⟩)), (6, .int .i64 x.2.1), (7, .int .i64 x.1)]) (H := fun x => dueRow p x.2.2.1 x.2.2.2 (addAll [] (ds.take x.1)) []) (μ := fun x => ds.length - x.1)
    (S := fun x => x.1 ≤ ds.length ∧ x.2.1 = (addAll [] (ds.take x.1)).length) (0, 0, A, c) (J := []) ⟨Nat.zero_le _, rfl⟩ ⟨rfl, rfl, rfl, rfl, rfl, trivial⟩ (List.Perm.refl _) ?_
  rintro ⟨k, n, A1, c1⟩ ⟨hk, hn⟩
  dsimp only at hk hn ⊢
  have hlen : (addAll [] (ds.take k)).length ≤ 60 := by have := addAll_len (l := []) (ds := ds.take k); simp at this; omega
  have hrow : RowD (addAll [] (ds.take k)) := addAll_row RowD.nil
  by_cases hlt : k < ds.length
  · have hA := hA0 (by omega)
    obtain ⟨x, hx⟩ : ∃ x, ds[k]? = some x := ⟨ds[k]'(by omega), List.getElem?_eq_getElem (by omega)⟩
    have hx2 : ds[(k : Int).toNat]? = some x := by simpa using hx
    have hd : decide ((k : Int) < (ds.length : Int)) = true := by simp; omega
    have hadd := due_Add W [] p A1 c1 (addAll [] (ds.take k)) x (by omega) hrow.mono
    have hstep := addAll_step (l := []) hx
    have hcnt : ((addAll [] (ds.take (k + 1))).length : Int) = if idxOf (hasD x.kind x.id) (addAll [] (ds.take k)) < 0 then n + 1 else n := by
      rw [hstep, addD]; split <;> simp [insD_len, hn]
    rw [← hstep] at hadd
    repeat' (first
      | apply aw_seq | apply aw_region | apply aw_ret | apply aw_skip | apply aw_exit | apply aw_block | apply es_nil
      | (apply es_pure hT; (iterate 4 exact rfl)) | (apply es_skip; (iterate 3 exact rfl)) | (apply es_skip0; (iterate 2 exact rfl))
      | (apply es_i64 hT; (iterate 4 exact rfl); (iterate 2 omega))
      | (apply aw_draw [] [] hmix; decide +kernel)
      | (apply es_idx hT; (iterate 8 exact rfl); (iterate 2 omega); exact hA)
      | (apply es_load; (iterate 5 exact rfl); exact ld_elem hT rfl rfl (hr0.mono (by simp)) Due.enc_len rfl hx2 rfl)
      | (apply es_call (hs := hadd); (iterate 7 exact rfl); rintro _ _ ⟨rfl, A2, c2, rfl⟩)
      | (apply es_load; (iterate 5 exact rfl); first | exact ld_blk hT rfl rfl mem0 rfl rfl | exact ld_all hT rfl rfl mem0 rfl)
      | (apply es_load; (iterate 5 exact rfl); first | exact ld_blk hT rfl rfl mem1 rfl rfl | exact ld_all hT rfl rfl mem1 rfl)
      | (apply es_load; (iterate 5 exact rfl); first | exact ld_blk hT rfl rfl mem2 rfl rfl | exact ld_all hT rfl rfl mem2 rfl)
      | (apply es_box; (iterate 5 exact rfl); intro _) | (apply es_alloc hT; (iterate 5 exact rfl); intro _)
      | (apply aw_condT; (iterate 2 exact rfl)) | (apply aw_condF; (iterate 2 exact rfl))
      | (apply es_case; exact rfl; all_goals intro hb; all_goals (try simp only [hb]); all_goals (first | replace hb := of_decide_eq_true hb | replace hb := of_decide_eq_false hb | replace hb := bne_t hb | replace hb := bne_f hb | skip); all_goals (try (exfalso; omega)))
      | (apply aw_cond; exact rfl; all_goals intro hb; all_goals (try simp only [hb]); all_goals (first | replace hb := of_decide_eq_true hb | replace hb := of_decide_eq_false hb | replace hb := bne_t hb | replace hb := bne_f hb | skip); all_goals (try (exfalso; omega))))
    · rw [if_pos hb] at hcnt
      exact ⟨(k + 1, n + 1, A2, c2), [], by dsimp only; omega, ⟨by dsimp only; omega, hcnt.symm⟩, ⟨rfl, rfl, rfl, rfl, rfl, trivial⟩, List.Perm.refl _⟩
    · rw [if_neg hb] at hcnt
      exact ⟨(k + 1, n, A2, c2), [], by dsimp only; omega, ⟨by dsimp only; omega, hcnt.symm⟩, ⟨rfl, rfl, rfl, rfl, rfl, trivial⟩, List.Perm.refl _⟩
  · obtain rfl : k = ds.length := by omega
    have htick0 : ∀ x ∈ addAll [] ds, x.tick ≤ 9223372036854775807 := fun x hx => by
      rcases addAll_from hx with h | h
      · cases h
      · exact (hok x h).1.2
    rw [List.take_length] at hlen hrow hn ⊢
    generalize addAll [] ds = l0 at hlen hrow hn htick0 ⊢
    have hd : decide ((ds.length : Int) < (ds.length : Int)) = false := by simp
    repeat' (first
      | apply aw_seq | apply aw_region | apply aw_ret | apply aw_skip | apply aw_exit | apply aw_block | apply es_nil
      | (apply es_pure hT; (iterate 4 exact rfl)) | (apply es_skip; (iterate 3 exact rfl)) | (apply es_skip0; (iterate 2 exact rfl))
      | (apply es_i64 hT; (iterate 4 exact rfl); (iterate 2 omega))
      | (apply aw_draw [] [] hmix; decide +kernel)
      | (apply es_load; (iterate 5 exact rfl); first | exact ld_blk hT rfl rfl mem0 rfl rfl | exact ld_all hT rfl rfl mem0 rfl)
      | (apply es_load; (iterate 5 exact rfl); first | exact ld_blk hT rfl rfl mem1 rfl rfl | exact ld_all hT rfl rfl mem1 rfl)
      | (apply es_load; (iterate 5 exact rfl); first | exact ld_blk hT rfl rfl mem2 rfl rfl | exact ld_all hT rfl rfl mem2 rfl)
      | (apply es_box; (iterate 5 exact rfl); intro _) | (apply es_alloc hT; (iterate 5 exact rfl); intro _)
      | (apply aw_condT; (iterate 2 exact rfl)) | (apply aw_condF; (iterate 2 exact rfl))
      | (apply es_case; exact rfl; all_goals intro hb; all_goals (try simp only [hb]); all_goals (first | replace hb := of_decide_eq_true hb | replace hb := of_decide_eq_false hb | replace hb := bne_t hb | replace hb := bne_f hb | skip); all_goals (try (exfalso; omega)))
      | (apply aw_cond; exact rfl; all_goals intro hb; all_goals (try simp only [hb]); all_goals (first | replace hb := of_decide_eq_true hb | replace hb := of_decide_eq_false hb | replace hb := bne_t hb | replace hb := bne_f hb | skip); all_goals (try (exfalso; omega))))
    refine aw_loop (α := Nat × List Due × Int × Option Addr × Nat) (E := fun x => [(0, .slice A0 ds.length c0), (1, .slice B0 at_.length b0), (5, .pointer (some ⟨p, 0, none⟩)), (6, .int .i64 n), (8, .int .i64 x.2.2.1), (9, .int .i64 x.1)]) (H := fun x => dueRow p x.2.2.2.1 x.2.2.2.2 x.2.1 []) (μ := fun x => at_.length + 1 - x.1)
      (S := fun x => x.1 ≤ at_.length + 1 ∧ RowD x.2.1 ∧ (∀ y ∈ x.2.1, y.tick ≤ 9223372036854775807) ∧ x.2.2.1 + x.2.1.length = n ∧ (at_.length < x.1 → x.2.1 = []) ∧ 0 ≤ x.2.2.1) (0, l0, 0, A1, c1) (J := []) ⟨Nat.zero_le _, hrow, htick0, by dsimp only; omega, fun h => by dsimp only at h; omega, Int.le_refl _⟩ ⟨rfl, rfl, rfl, rfl, rfl, rfl, trivial⟩ (List.Perm.refl _) ?_
    clear hrow
    rintro ⟨i, l, many, A3, c3⟩ ⟨hi, hrow, htick, hmany, hlast, hm0⟩
    dsimp only at hi hrow htick hmany hlast hm0 ⊢
    by_cases hil : i ≤ at_.length
    · have hd1 : decide ((i : Int) ≤ (at_.length : Int)) = true := by simp; omega
      have htake := fun t => due_TakeF W [] p A3 c3 l t (by omega)
      by_cases hilt : i < at_.length
      · have hd2 : decide ((i : Int) < (at_.length : Int)) = true := by simp; omega
        obtain ⟨t, hx⟩ : ∃ x, at_[i]? = some x := ⟨at_[i]'(by omega), List.getElem?_eq_getElem (by omega)⟩
        have hx2 : at_[(i : Int).toNat]? = some t := by simpa using hx
        have hB := hB0 (by omega)
        repeat' (first
          | apply aw_seq | apply aw_region | apply aw_ret | apply aw_skip | apply aw_exit | apply aw_block | apply es_nil
          | (apply es_pure hT; (iterate 4 exact rfl)) | (apply es_skip; (iterate 3 exact rfl)) | (apply es_skip0; (iterate 2 exact rfl))
          | (apply es_i64 hT; (iterate 4 exact rfl); (iterate 2 omega))
          | (apply aw_draw [] [] hmix; decide +kernel)
          | (apply es_idx hT; (iterate 8 exact rfl); (iterate 2 omega); exact hB)
          | (apply es_load; (iterate 5 exact rfl); exact ld_fld hT rfl rfl (hr1.mono (by simp)) encI_len (f := 0) rfl hx2 (by decide) rfl)
          | (apply es_call (hs := (htake _)); (iterate 7 exact rfl); rintro _ _ ⟨A5, c5, A6, c6, rfl, rfl, hf⟩)
          | (apply es_load; (iterate 5 exact rfl); first | exact ld_blk hT rfl rfl mem0 rfl rfl | exact ld_all hT rfl rfl mem0 rfl)
          | (apply es_load; (iterate 5 exact rfl); first | exact ld_blk hT rfl rfl mem1 rfl rfl | exact ld_all hT rfl rfl mem1 rfl)
          | (apply es_load; (iterate 5 exact rfl); first | exact ld_blk hT rfl rfl mem2 rfl rfl | exact ld_all hT rfl rfl mem2 rfl)
          | (apply es_box; (iterate 5 exact rfl); intro _) | (apply es_alloc hT; (iterate 5 exact rfl); intro _)
          | (apply aw_condT; (iterate 2 exact rfl)) | (apply aw_condF; (iterate 2 exact rfl))
          | (apply es_case; exact rfl; all_goals intro hb; all_goals (try simp only [hb]); all_goals (first | replace hb := of_decide_eq_true hb | replace hb := of_decide_eq_false hb | replace hb := bne_t hb | replace hb := bne_f hb | skip); all_goals (try (exfalso; omega)))
          | (apply aw_cond; exact rfl; all_goals intro hb; all_goals (try simp only [hb]); all_goals (first | replace hb := of_decide_eq_true hb | replace hb := of_decide_eq_false hb | replace hb := bne_t hb | replace hb := bne_f hb | skip); all_goals (try (exfalso; omega))))
        refine aw_loop (α := Nat) (E := fun j => [(0, .slice A0 ds.length c0), (1, .slice B0 at_.length b0), (5, .pointer (some ⟨p, 0, none⟩)), (6, .int .i64 n), (8, .int .i64 many), (9, .int .i64 i), (10, .int .i64 t), (11, .slice A5 (takeN l t) c5), (12, .int .i64 j)]) (H := fun _ => .own A5 (takeN l t) c5 39 3 ((l.take (takeN l t)).flatMap Due.enc) :: dueRow p A6 c6 (l.drop (takeN l t)) []) (μ := fun j => takeN l t - j)
          (S := fun j => j ≤ takeN l t) 0 (J := []) (Nat.zero_le _) ⟨rfl, rfl, rfl, rfl, rfl, rfl, rfl, rfl, rfl, trivial⟩ (List.Perm.refl _) ?_
        intro j hj
        have htl := takeN_le l t
        by_cases hjl : j < takeN l t
        · have hlo : (l.take (takeN l t)).length = takeN l t := by simp; omega
          obtain ⟨x, hx⟩ : ∃ x, (l.take (takeN l t))[j]? = some x := ⟨(l.take (takeN l t))[j]'(by omega), List.getElem?_eq_getElem (by omega)⟩
          have hx2 : (l.take (takeN l t))[(j : Int).toNat]? = some x := by simpa using hx
          have hxt := takeN_tick (List.mem_of_getElem? hx)
          have hd1 : decide ((j : Int) < ((takeN l t : Nat) : Int)) = true := by simp; omega
          have hd2 : decide (x.tick > t) = false := by simp; omega
          have hA5 := hf.some_ (by omega)
          by_cases hj0 : 0 < j
          · obtain ⟨y, hy⟩ : ∃ y, (l.take (takeN l t))[j - 1]? = some y := ⟨(l.take (takeN l t))[j - 1]'(by omega), List.getElem?_eq_getElem (by omega)⟩
            have hy2 : (l.take (takeN l t))[((j : Int) - 1).toNat]? = some y := by rw [← hy]; congr 1; omega
            have hd3 : decide ((j : Int) > 0) = true := by simp; omega
            have hyx : y.tick ≤ x.tick := by
              have hp := (hrow.up.sublist (List.take_sublist (takeN l t) l))
              obtain ⟨h1, h1e⟩ := List.getElem?_eq_some_iff.1 hy
              obtain ⟨h2, h2e⟩ := List.getElem?_eq_some_iff.1 hx
              have := List.pairwise_iff_getElem.1 hp (j - 1) j h1 h2 (by omega)
              rw [h1e, h2e] at this
              unfold ltD at this; omega
            have hd4 : decide (x.tick < y.tick) = false := by simp; omega
            repeat' (first
              | apply aw_seq | apply aw_region | apply aw_ret | apply aw_skip | apply aw_exit | apply aw_block | apply es_nil
              | (apply es_pure hT; (iterate 4 exact rfl)) | (apply es_skip; (iterate 3 exact rfl)) | (apply es_skip0; (iterate 2 exact rfl))
              | (apply es_i64 hT; (iterate 4 exact rfl); (iterate 2 omega))
              | (apply aw_draw [] [] hmix; decide +kernel)
              | (apply es_idx hT; (iterate 8 exact rfl); (iterate 2 omega); exact hA5)
              | (apply es_load; (iterate 5 exact rfl); first | exact ld_fld hT rfl rfl (hf.reads mem0) Due.enc_len (adr_add _ _ _) hx2 (by decide) rfl | exact ld_fld hT rfl rfl (hf.reads mem0) Due.enc_len (adr_add _ _ _) hy2 (by decide) rfl)
              | (apply es_load; (iterate 5 exact rfl); first | exact ld_blk hT rfl rfl mem0 rfl rfl | exact ld_all hT rfl rfl mem0 rfl)
              | (apply es_load; (iterate 5 exact rfl); first | exact ld_blk hT rfl rfl mem1 rfl rfl | exact ld_all hT rfl rfl mem1 rfl)
              | (apply es_load; (iterate 5 exact rfl); first | exact ld_blk hT rfl rfl mem2 rfl rfl | exact ld_all hT rfl rfl mem2 rfl)
              | (apply es_box; (iterate 5 exact rfl); intro _) | (apply es_alloc hT; (iterate 5 exact rfl); intro _)
              | (apply aw_condT; (iterate 2 exact rfl)) | (apply aw_condF; (iterate 2 exact rfl))
              | (apply es_case; exact rfl; all_goals intro hb; all_goals (try simp only [hb]); all_goals (first | replace hb := of_decide_eq_true hb | replace hb := of_decide_eq_false hb | replace hb := bne_t hb | replace hb := bne_f hb | skip); all_goals (try (exfalso; omega)))
              | (apply aw_cond; exact rfl; all_goals intro hb; all_goals (try simp only [hb]); all_goals (first | replace hb := of_decide_eq_true hb | replace hb := of_decide_eq_false hb | replace hb := bne_t hb | replace hb := bne_f hb | skip); all_goals (try (exfalso; omega))))
            all_goals exact ⟨j + 1, [], by dsimp only; omega, by dsimp only; omega, ⟨rfl, rfl, rfl, rfl, rfl, rfl, rfl, rfl, rfl, trivial⟩, List.Perm.refl _⟩
          · obtain rfl : j = 0 := by omega
            have hd3 : decide (((0 : Nat) : Int) > 0) = false := by simp
            repeat' (first
              | apply aw_seq | apply aw_region | apply aw_ret | apply aw_skip | apply aw_exit | apply aw_block | apply es_nil
              | (apply es_pure hT; (iterate 4 exact rfl)) | (apply es_skip; (iterate 3 exact rfl)) | (apply es_skip0; (iterate 2 exact rfl))
              | (apply es_i64 hT; (iterate 4 exact rfl); (iterate 2 omega))
              | (apply aw_draw [] [] hmix; decide +kernel)
              | (apply es_idx hT; (iterate 8 exact rfl); (iterate 2 omega); exact hA5)
              | (apply es_load; (iterate 5 exact rfl); exact ld_fld hT rfl rfl (hf.reads mem0) Due.enc_len (adr_add _ _ _) hx2 (by decide) rfl)
              | (apply es_load; (iterate 5 exact rfl); first | exact ld_blk hT rfl rfl mem0 rfl rfl | exact ld_all hT rfl rfl mem0 rfl)
              | (apply es_load; (iterate 5 exact rfl); first | exact ld_blk hT rfl rfl mem1 rfl rfl | exact ld_all hT rfl rfl mem1 rfl)
              | (apply es_load; (iterate 5 exact rfl); first | exact ld_blk hT rfl rfl mem2 rfl rfl | exact ld_all hT rfl rfl mem2 rfl)
              | (apply es_box; (iterate 5 exact rfl); intro _) | (apply es_alloc hT; (iterate 5 exact rfl); intro _)
              | (apply aw_condT; (iterate 2 exact rfl)) | (apply aw_condF; (iterate 2 exact rfl))
              | (apply es_case; exact rfl; all_goals intro hb; all_goals (try simp only [hb]); all_goals (first | replace hb := of_decide_eq_true hb | replace hb := of_decide_eq_false hb | replace hb := bne_t hb | replace hb := bne_f hb | skip); all_goals (try (exfalso; omega)))
              | (apply aw_cond; exact rfl; all_goals intro hb; all_goals (try simp only [hb]); all_goals (first | replace hb := of_decide_eq_true hb | replace hb := of_decide_eq_false hb | replace hb := bne_t hb | replace hb := bne_f hb | skip); all_goals (try (exfalso; omega))))
            all_goals exact ⟨0 + 1, [], by dsimp only; omega, by dsimp only; omega, ⟨rfl, rfl, rfl, rfl, rfl, rfl, rfl, rfl, rfl, trivial⟩, List.Perm.refl _⟩
        · obtain rfl : j = takeN l t := by omega
          have hd1 : decide (((takeN l t : Nat) : Int) < ((takeN l t : Nat) : Int)) = false := by simp
          repeat' (first
            | apply aw_seq | apply aw_region | apply aw_ret | apply aw_skip | apply aw_exit | apply aw_block | apply es_nil
            | (apply es_pure hT; (iterate 4 exact rfl)) | (apply es_skip; (iterate 3 exact rfl)) | (apply es_skip0; (iterate 2 exact rfl))
            | (apply es_i64 hT; (iterate 4 exact rfl); (iterate 2 omega))
            | (apply aw_draw [] [] hmix; decide +kernel)
            | (apply es_load; (iterate 5 exact rfl); first | exact ld_blk hT rfl rfl mem0 rfl rfl | exact ld_all hT rfl rfl mem0 rfl)
            | (apply es_load; (iterate 5 exact rfl); first | exact ld_blk hT rfl rfl mem1 rfl rfl | exact ld_all hT rfl rfl mem1 rfl)
            | (apply es_load; (iterate 5 exact rfl); first | exact ld_blk hT rfl rfl mem2 rfl rfl | exact ld_all hT rfl rfl mem2 rfl)
            | (apply es_box; (iterate 5 exact rfl); intro _) | (apply es_alloc hT; (iterate 5 exact rfl); intro _)
            | (apply aw_condT; (iterate 2 exact rfl)) | (apply aw_condF; (iterate 2 exact rfl))
            | (apply es_case; exact rfl; all_goals intro hb; all_goals (try simp only [hb]); all_goals (first | replace hb := of_decide_eq_true hb | replace hb := of_decide_eq_false hb | replace hb := bne_t hb | replace hb := bne_f hb | skip); all_goals (try (exfalso; omega)))
            | (apply aw_cond; exact rfl; all_goals intro hb; all_goals (try simp only [hb]); all_goals (first | replace hb := of_decide_eq_true hb | replace hb := of_decide_eq_false hb | replace hb := bne_t hb | replace hb := bne_f hb | skip); all_goals (try (exfalso; omega))))
          exact ⟨(i + 1, l.drop (takeN l t), many + (takeN l t : Nat), A6, c6), [_], by dsimp only; omega, ⟨by dsimp only; omega, hrow.sub (List.drop_sublist _ _), fun x hx => htick x (List.mem_of_mem_drop hx), by dsimp only; rw [List.length_drop]; omega, fun h => absurd h (by dsimp only; omega), by dsimp only; omega⟩, ⟨rfl, rfl, rfl, rfl, rfl, rfl, trivial⟩, List.Perm.refl _⟩
      · have hd2 : decide ((i : Int) < (at_.length : Int)) = false := by simp; omega
        have htn : takeN l 9223372036854775807 = l.length := takeN_all htick
        have hl0 : l.drop (takeN l 9223372036854775807) = [] := by rw [htn, List.drop_length]
        repeat' (first
          | apply aw_seq | apply aw_region | apply aw_ret | apply aw_skip | apply aw_exit | apply aw_block | apply es_nil
          | (apply es_pure hT; (iterate 4 exact rfl)) | (apply es_skip; (iterate 3 exact rfl)) | (apply es_skip0; (iterate 2 exact rfl))
          | (apply es_i64 hT; (iterate 4 exact rfl); (iterate 2 omega))
          | (apply aw_draw [] [] hmix; decide +kernel)
          | (apply es_call (hs := (htake _)); (iterate 7 exact rfl); rintro _ _ ⟨A5, c5, A6, c6, rfl, rfl, hf⟩)
          | (apply es_load; (iterate 5 exact rfl); first | exact ld_blk hT rfl rfl mem0 rfl rfl | exact ld_all hT rfl rfl mem0 rfl)
          | (apply es_load; (iterate 5 exact rfl); first | exact ld_blk hT rfl rfl mem1 rfl rfl | exact ld_all hT rfl rfl mem1 rfl)
          | (apply es_load; (iterate 5 exact rfl); first | exact ld_blk hT rfl rfl mem2 rfl rfl | exact ld_all hT rfl rfl mem2 rfl)
          | (apply es_box; (iterate 5 exact rfl); intro _) | (apply es_alloc hT; (iterate 5 exact rfl); intro _)
          | (apply aw_condT; (iterate 2 exact rfl)) | (apply aw_condF; (iterate 2 exact rfl))
          | (apply es_case; exact rfl; all_goals intro hb; all_goals (try simp only [hb]); all_goals (first | replace hb := of_decide_eq_true hb | replace hb := of_decide_eq_false hb | replace hb := bne_t hb | replace hb := bne_f hb | skip); all_goals (try (exfalso; omega)))
          | (apply aw_cond; exact rfl; all_goals intro hb; all_goals (try simp only [hb]); all_goals (first | replace hb := of_decide_eq_true hb | replace hb := of_decide_eq_false hb | replace hb := bne_t hb | replace hb := bne_f hb | skip); all_goals (try (exfalso; omega))))
        refine aw_loop (α := Nat) (E := fun j => [(0, .slice A0 ds.length c0), (1, .slice B0 at_.length b0), (5, .pointer (some ⟨p, 0, none⟩)), (6, .int .i64 n), (8, .int .i64 many), (9, .int .i64 i), (10, .int .i64 9223372036854775807), (11, .slice A5 (takeN l 9223372036854775807) c5), (12, .int .i64 j)]) (H := fun _ => .own A5 (takeN l 9223372036854775807) c5 39 3 ((l.take (takeN l 9223372036854775807)).flatMap Due.enc) :: dueRow p A6 c6 (l.drop (takeN l 9223372036854775807)) []) (μ := fun j => takeN l 9223372036854775807 - j)
          (S := fun j => j ≤ takeN l 9223372036854775807) 0 (J := []) (Nat.zero_le _) ⟨rfl, rfl, rfl, rfl, rfl, rfl, rfl, rfl, rfl, trivial⟩ (List.Perm.refl _) ?_
        intro j hj
        have htl := takeN_le l 9223372036854775807
        by_cases hjl : j < takeN l 9223372036854775807
        · have hlo : (l.take (takeN l 9223372036854775807)).length = takeN l 9223372036854775807 := by simp; omega
          obtain ⟨x, hx⟩ : ∃ x, (l.take (takeN l 9223372036854775807))[j]? = some x := ⟨(l.take (takeN l 9223372036854775807))[j]'(by omega), List.getElem?_eq_getElem (by omega)⟩
          have hx2 : (l.take (takeN l 9223372036854775807))[(j : Int).toNat]? = some x := by simpa using hx
          have hxt := takeN_tick (List.mem_of_getElem? hx)
          have hd1 : decide ((j : Int) < ((takeN l 9223372036854775807 : Nat) : Int)) = true := by simp; omega
          have hd2 : decide (x.tick > 9223372036854775807) = false := by simp; omega
          have hA5 := hf.some_ (by omega)
          by_cases hj0 : 0 < j
          · obtain ⟨y, hy⟩ : ∃ y, (l.take (takeN l 9223372036854775807))[j - 1]? = some y := ⟨(l.take (takeN l 9223372036854775807))[j - 1]'(by omega), List.getElem?_eq_getElem (by omega)⟩
            have hy2 : (l.take (takeN l 9223372036854775807))[((j : Int) - 1).toNat]? = some y := by rw [← hy]; congr 1; omega
            have hd3 : decide ((j : Int) > 0) = true := by simp; omega
            have hyx : y.tick ≤ x.tick := by
              have hp := (hrow.up.sublist (List.take_sublist (takeN l 9223372036854775807) l))
              obtain ⟨h1, h1e⟩ := List.getElem?_eq_some_iff.1 hy
              obtain ⟨h2, h2e⟩ := List.getElem?_eq_some_iff.1 hx
              have := List.pairwise_iff_getElem.1 hp (j - 1) j h1 h2 (by omega)
              rw [h1e, h2e] at this
              unfold ltD at this; omega
            have hd4 : decide (x.tick < y.tick) = false := by simp; omega
            repeat' (first
              | apply aw_seq | apply aw_region | apply aw_ret | apply aw_skip | apply aw_exit | apply aw_block | apply es_nil
              | (apply es_pure hT; (iterate 4 exact rfl)) | (apply es_skip; (iterate 3 exact rfl)) | (apply es_skip0; (iterate 2 exact rfl))
              | (apply es_i64 hT; (iterate 4 exact rfl); (iterate 2 omega))
              | (apply aw_draw [] [] hmix; decide +kernel)
              | (apply es_idx hT; (iterate 8 exact rfl); (iterate 2 omega); exact hA5)
              | (apply es_load; (iterate 5 exact rfl); first | exact ld_fld hT rfl rfl (hf.reads mem0) Due.enc_len (adr_add _ _ _) hx2 (by decide) rfl | exact ld_fld hT rfl rfl (hf.reads mem0) Due.enc_len (adr_add _ _ _) hy2 (by decide) rfl)
              | (apply es_load; (iterate 5 exact rfl); first | exact ld_blk hT rfl rfl mem0 rfl rfl | exact ld_all hT rfl rfl mem0 rfl)
              | (apply es_load; (iterate 5 exact rfl); first | exact ld_blk hT rfl rfl mem1 rfl rfl | exact ld_all hT rfl rfl mem1 rfl)
              | (apply es_load; (iterate 5 exact rfl); first | exact ld_blk hT rfl rfl mem2 rfl rfl | exact ld_all hT rfl rfl mem2 rfl)
              | (apply es_box; (iterate 5 exact rfl); intro _) | (apply es_alloc hT; (iterate 5 exact rfl); intro _)
              | (apply aw_condT; (iterate 2 exact rfl)) | (apply aw_condF; (iterate 2 exact rfl))
              | (apply es_case; exact rfl; all_goals intro hb; all_goals (try simp only [hb]); all_goals (first | replace hb := of_decide_eq_true hb | replace hb := of_decide_eq_false hb | replace hb := bne_t hb | replace hb := bne_f hb | skip); all_goals (try (exfalso; omega)))
              | (apply aw_cond; exact rfl; all_goals intro hb; all_goals (try simp only [hb]); all_goals (first | replace hb := of_decide_eq_true hb | replace hb := of_decide_eq_false hb | replace hb := bne_t hb | replace hb := bne_f hb | skip); all_goals (try (exfalso; omega))))
            all_goals exact ⟨j + 1, [], by dsimp only; omega, by dsimp only; omega, ⟨rfl, rfl, rfl, rfl, rfl, rfl, rfl, rfl, rfl, trivial⟩, List.Perm.refl _⟩
          · obtain rfl : j = 0 := by omega
            have hd3 : decide (((0 : Nat) : Int) > 0) = false := by simp
            repeat' (first
              | apply aw_seq | apply aw_region | apply aw_ret | apply aw_skip | apply aw_exit | apply aw_block | apply es_nil
              | (apply es_pure hT; (iterate 4 exact rfl)) | (apply es_skip; (iterate 3 exact rfl)) | (apply es_skip0; (iterate 2 exact rfl))
              | (apply es_i64 hT; (iterate 4 exact rfl); (iterate 2 omega))
              | (apply aw_draw [] [] hmix; decide +kernel)
              | (apply es_idx hT; (iterate 8 exact rfl); (iterate 2 omega); exact hA5)
              | (apply es_load; (iterate 5 exact rfl); exact ld_fld hT rfl rfl (hf.reads mem0) Due.enc_len (adr_add _ _ _) hx2 (by decide) rfl)
              | (apply es_load; (iterate 5 exact rfl); first | exact ld_blk hT rfl rfl mem0 rfl rfl | exact ld_all hT rfl rfl mem0 rfl)
              | (apply es_load; (iterate 5 exact rfl); first | exact ld_blk hT rfl rfl mem1 rfl rfl | exact ld_all hT rfl rfl mem1 rfl)
              | (apply es_load; (iterate 5 exact rfl); first | exact ld_blk hT rfl rfl mem2 rfl rfl | exact ld_all hT rfl rfl mem2 rfl)
              | (apply es_box; (iterate 5 exact rfl); intro _) | (apply es_alloc hT; (iterate 5 exact rfl); intro _)
              | (apply aw_condT; (iterate 2 exact rfl)) | (apply aw_condF; (iterate 2 exact rfl))
              | (apply es_case; exact rfl; all_goals intro hb; all_goals (try simp only [hb]); all_goals (first | replace hb := of_decide_eq_true hb | replace hb := of_decide_eq_false hb | replace hb := bne_t hb | replace hb := bne_f hb | skip); all_goals (try (exfalso; omega)))
              | (apply aw_cond; exact rfl; all_goals intro hb; all_goals (try simp only [hb]); all_goals (first | replace hb := of_decide_eq_true hb | replace hb := of_decide_eq_false hb | replace hb := bne_t hb | replace hb := bne_f hb | skip); all_goals (try (exfalso; omega))))
            all_goals exact ⟨0 + 1, [], by dsimp only; omega, by dsimp only; omega, ⟨rfl, rfl, rfl, rfl, rfl, rfl, rfl, rfl, rfl, trivial⟩, List.Perm.refl _⟩
        · obtain rfl : j = takeN l 9223372036854775807 := by omega
          have hd1 : decide (((takeN l 9223372036854775807 : Nat) : Int) < ((takeN l 9223372036854775807 : Nat) : Int)) = false := by simp
          repeat' (first
            | apply aw_seq | apply aw_region | apply aw_ret | apply aw_skip | apply aw_exit | apply aw_block | apply es_nil
            | (apply es_pure hT; (iterate 4 exact rfl)) | (apply es_skip; (iterate 3 exact rfl)) | (apply es_skip0; (iterate 2 exact rfl))
            | (apply es_i64 hT; (iterate 4 exact rfl); (iterate 2 omega))
            | (apply aw_draw [] [] hmix; decide +kernel)
            | (apply es_load; (iterate 5 exact rfl); first | exact ld_blk hT rfl rfl mem0 rfl rfl | exact ld_all hT rfl rfl mem0 rfl)
            | (apply es_load; (iterate 5 exact rfl); first | exact ld_blk hT rfl rfl mem1 rfl rfl | exact ld_all hT rfl rfl mem1 rfl)
            | (apply es_load; (iterate 5 exact rfl); first | exact ld_blk hT rfl rfl mem2 rfl rfl | exact ld_all hT rfl rfl mem2 rfl)
            | (apply es_box; (iterate 5 exact rfl); intro _) | (apply es_alloc hT; (iterate 5 exact rfl); intro _)
            | (apply aw_condT; (iterate 2 exact rfl)) | (apply aw_condF; (iterate 2 exact rfl))
            | (apply es_case; exact rfl; all_goals intro hb; all_goals (try simp only [hb]); all_goals (first | replace hb := of_decide_eq_true hb | replace hb := of_decide_eq_false hb | replace hb := bne_t hb | replace hb := bne_f hb | skip); all_goals (try (exfalso; omega)))
            | (apply aw_cond; exact rfl; all_goals intro hb; all_goals (try simp only [hb]); all_goals (first | replace hb := of_decide_eq_true hb | replace hb := of_decide_eq_false hb | replace hb := bne_t hb | replace hb := bne_f hb | skip); all_goals (try (exfalso; omega))))
          exact ⟨(i + 1, l.drop (takeN l 9223372036854775807), many + (takeN l 9223372036854775807 : Nat), A6, c6), [_], by dsimp only; omega, ⟨by dsimp only; omega, hrow.sub (List.drop_sublist _ _), fun x hx => htick x (List.mem_of_mem_drop hx), by dsimp only; rw [List.length_drop]; omega, fun _ => hl0, by dsimp only; omega⟩, ⟨rfl, rfl, rfl, rfl, rfl, rfl, trivial⟩, List.Perm.refl _⟩
    · have hd1 : decide ((i : Int) ≤ (at_.length : Int)) = false := by simp; omega
      have hl0 : l = [] := hlast (by omega)
      subst hl0
      have hmn : many = n := by simpa using hmany
      subst hmn
      have hkn := due_known W
      have hlen0 : QSpec Try.prog W 21 [.pointer (some ⟨p, 0, none⟩)] (dueRow p A3 c3 [] []) (.int .i64 0) := due_Len W p A3 c3 []
      repeat' (first
        | apply aw_seq | apply aw_region | apply aw_ret | apply aw_skip | apply aw_exit | apply aw_block | apply es_nil
        | (apply es_pure hT; (iterate 4 exact rfl)) | (apply es_skip; (iterate 3 exact rfl)) | (apply es_skip0; (iterate 2 exact rfl))
        | (apply es_i64 hT; (iterate 4 exact rfl); (iterate 2 omega))
        | (apply aw_draw [] [] hmix; decide +kernel)
        | (apply es_callQ (hs := ((due_NextNil W).mono (by simp))); (iterate 7 exact rfl))
        | (apply es_build hT; (iterate 4 exact rfl))
        | (apply es_callQ (hs := ((due_AddNil W ⟨0, 0, 0⟩).mono (by simp))); (iterate 7 exact rfl))
        | (apply es_callQ (hs := ((due_DropNil W 0 0).mono (by simp))); (iterate 7 exact rfl))
        | (apply es_callQ (hs := ((due_TakeNil W 1).mono (by simp))); (iterate 7 exact rfl))
        | (apply es_callQ (hs := ((due_LenNil W).mono (by simp))); (iterate 7 exact rfl))
        | (apply es_callQ (hs := hlen0); (iterate 7 exact rfl))
        | (apply es_callQ (hs := (hkn.mono (by simp))); (iterate 7 exact rfl))
        | (apply es_load; (iterate 5 exact rfl); first | exact ld_blk hT rfl rfl mem0 rfl rfl | exact ld_all hT rfl rfl mem0 rfl)
        | (apply es_load; (iterate 5 exact rfl); first | exact ld_blk hT rfl rfl mem1 rfl rfl | exact ld_all hT rfl rfl mem1 rfl)
        | (apply es_load; (iterate 5 exact rfl); first | exact ld_blk hT rfl rfl mem2 rfl rfl | exact ld_all hT rfl rfl mem2 rfl)
        | (apply es_box; (iterate 5 exact rfl); intro _) | (apply es_alloc hT; (iterate 5 exact rfl); intro _)
        | (apply aw_condT; (iterate 2 exact rfl)) | (apply aw_condF; (iterate 2 exact rfl))
        | (apply es_case; exact rfl; all_goals intro hb; all_goals (try simp only [hb]); all_goals (first | replace hb := of_decide_eq_true hb | replace hb := of_decide_eq_false hb | replace hb := bne_t hb | replace hb := bne_f hb | skip); all_goals (try (exfalso; omega)))
        | (apply aw_cond; exact rfl; all_goals intro hb; all_goals (try simp only [hb]); all_goals (first | replace hb := of_decide_eq_true hb | replace hb := of_decide_eq_false hb | replace hb := bne_t hb | replace hb := bne_f hb | skip); all_goals (try (exfalso; omega))))
      apply ret1; exact rfl; exact rfl
end Go.Proofs.Ytmoglacdddinjaa
