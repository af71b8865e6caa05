/- The document's answer on what is due (consolsref11): what each method does to its row. Conditions stand in each statement. -/
import Derived.Test.YtmoglacdddinjaaDueL
set_option linter.unusedSimpArgs false
set_option linter.unusedVariables false
namespace Go.Proofs.Ytmoglacdddinjaa
open Go Go.Sl
attribute [local irreducible] AW ES EP Ld RetQ
set_option maxRecDepth 100000

/-- a row of the document's: what it holds is read, never written -/
structure RefD (W : World) (B : List Chunk) (A : Option Addr) (c : Nat) (l : List Due) : Prop where
  rd : Reads W B A l.length 3 (l.flatMap Due.enc)
  nc : l.length ≤ c
  cc : c ≤ 9223372036854775807
def refRow (q : Nat) (A : Option Addr) (c : Nat) (l : List Due) (F B : List Chunk) : List Chunk := .blk q 47 [.slice A l.length c] :: (F ++ B)

theorem sOKDue : structOK Try.prog 39 := ⟨by kernel_rfl, by kernel_rfl⟩
theorem ref_less (W : World) (a b : Due) : QSpec Try.prog W 70 [.agg a.enc.toArray, .agg b.enc.toArray] [] (.bool (decide (ordD a b < 0))) := by
  refine QSpec.ofD (fun h' hs => ?_)
  refine spec_body Try.func70 rfl rfl Try.results70 Try.ntmps70 rfl rfl ?_
  repeat' (first
    | apply aw_seq | apply aw_region | apply aw_ret | apply aw_skip | apply aw_exit | apply aw_block | apply es_nil
    | (apply es_pure hT; (iterate 4 exact rfl)) | (apply es_skip; (iterate 3 exact rfl)) | (apply es_skip0; (iterate 2 exact rfl))
    | (apply es_i64 hT; (iterate 4 exact rfl); (iterate 2 omega))
    | (apply aw_draw [] [] hmix; decide +kernel)
    | (apply es_load; (iterate 5 exact rfl); first | exact ld_blk hT rfl rfl mem0 rfl rfl | exact ld_all hT rfl rfl mem0 rfl)
    | (apply es_load; (iterate 5 exact rfl); first | exact ld_blk hT rfl rfl mem1 rfl rfl | exact ld_all hT rfl rfl mem1 rfl)
    | (apply es_load; (iterate 5 exact rfl); first | exact ld_blk hT rfl rfl mem2 rfl rfl | exact ld_all hT rfl rfl mem2 rfl)
    | (apply es_box; (iterate 5 exact rfl); intro _) | (apply es_alloc hT; (iterate 5 exact rfl); intro _)
    | (apply aw_condT; (iterate 2 exact rfl)) | (apply aw_condF; (iterate 2 exact rfl))
    | (apply es_case; exact rfl; all_goals intro hb; all_goals (try simp only [hb]); all_goals (first | replace hb := of_decide_eq_true hb | replace hb := of_decide_eq_false hb | replace hb := bne_t hb | replace hb := bne_f hb | skip); all_goals (try (exfalso; omega)))
    | (apply aw_cond; exact rfl; all_goals intro hb; all_goals (try simp only [hb]); all_goals (first | replace hb := of_decide_eq_true hb | replace hb := of_decide_eq_false hb | replace hb := bne_t hb | replace hb := bne_f hb | skip); all_goals (try (exfalso; omega))))
  all_goals (apply ret1; exact rfl; refine ⟨?_, dt_skip (dt_skip dt_end)⟩; congr 1; rw [decide_eq_decide, ordD_neg]; unfold ltD; omega)

theorem ref_Next (W : World) (q : Nat) (A : Option Addr) (c : Nat) (l : List Due) (F B : List Chunk) (hr : RefD W B A c l) (hb : l.length ≤ 1000000) :
    QSpec Try.prog W 30 [.pointer (some ⟨q, 0, none⟩)] (refRow q A c l F B) (nextD l) := by
  refine QSpec.ofD (fun h' hs => ?_)
  have m1 := hs _ mem0
  have hrd : Reads W h' A l.length 3 (l.flatMap Due.enc) := hr.rd.mono fun x hx => hs x (List.mem_cons_of_mem _ (List.mem_append_right _ hx))
  refine spec_body Try.func30 rfl rfl Try.results30 Try.ntmps30 rfl rfl ?_
  refine aw_reads hrd (by rfl) (fun hA => ?_)
  cases l with
  | nil =>
    have he : ((([] : List Due).length : Int) == 0) = true := rfl
    repeat' (first
      | apply aw_seq | apply aw_region | apply aw_ret | apply aw_skip | apply aw_exit | apply aw_block | apply es_nil
      | (apply es_pure hT; (iterate 4 exact rfl)) | (apply es_skip; (iterate 3 exact rfl)) | (apply es_skip0; (iterate 2 exact rfl))
      | (apply es_i64 hT; (iterate 4 exact rfl); (iterate 2 omega))
      | (apply aw_draw [] [] hmix; decide +kernel)
      | (apply es_load; (iterate 5 exact rfl); first | exact ld_blk hT rfl rfl mem0 rfl rfl | exact ld_all hT rfl rfl mem0 rfl)
      | (apply es_load; (iterate 5 exact rfl); first | exact ld_blk hT rfl rfl mem1 rfl rfl | exact ld_all hT rfl rfl mem1 rfl)
      | (apply es_load; (iterate 5 exact rfl); first | exact ld_blk hT rfl rfl mem2 rfl rfl | exact ld_all hT rfl rfl mem2 rfl)
      | (apply es_load; (iterate 5 exact rfl); first | exact ld_blk hT rfl rfl m1 rfl rfl | exact ld_all hT rfl rfl m1 rfl)
      | (apply es_load; (iterate 5 exact rfl); first | exact ld_blk hT rfl rfl (List.mem_cons_of_mem _ m1) rfl rfl | exact ld_all hT rfl rfl (List.mem_cons_of_mem _ m1) rfl)
      | (apply es_box; (iterate 5 exact rfl); intro _) | (apply es_alloc hT; (iterate 5 exact rfl); intro _)
      | (apply aw_condT; (iterate 2 exact rfl)) | (apply aw_condF; (iterate 2 exact rfl))
      | (apply es_case; exact rfl; all_goals intro hb; all_goals (try simp only [hb]); all_goals (first | replace hb := of_decide_eq_true hb | replace hb := of_decide_eq_false hb | replace hb := bne_t hb | replace hb := bne_f hb | skip); all_goals (try (exfalso; omega)))
      | (apply aw_cond; exact rfl; all_goals intro hb; all_goals (try simp only [hb]); all_goals (first | replace hb := of_decide_eq_true hb | replace hb := of_decide_eq_false hb | replace hb := bne_t hb | replace hb := bne_f hb | skip); all_goals (try (exfalso; omega))))
    apply ret2; exact rfl; exact rfl
    exact ⟨rfl, dt_end⟩
  | cons x l =>
    have he : (((x :: l).length : Int) == 0) = false := by simp; omega
    have hlen : 0 < (x :: l).length := by simp
    have hA := hA hlen
    repeat' (first
      | apply aw_seq | apply aw_region | apply aw_ret | apply aw_skip | apply aw_exit | apply aw_block | apply es_nil
      | (apply es_pure hT; (iterate 4 exact rfl)) | (apply es_skip; (iterate 3 exact rfl)) | (apply es_skip0; (iterate 2 exact rfl))
      | (apply es_i64 hT; (iterate 4 exact rfl); (iterate 2 omega))
      | (apply aw_draw [] [] hmix; decide +kernel)
      | (apply es_idx hT; (iterate 8 exact rfl); (iterate 2 omega); exact hA)
      | (apply es_load; (iterate 5 exact rfl); exact ld_fld hT rfl rfl hrd Due.enc_len (adr_add _ _ _) (rfl : (x :: l)[0]? = some x) (by decide) rfl)
      | (apply es_load; (iterate 5 exact rfl); first | exact ld_blk hT rfl rfl mem0 rfl rfl | exact ld_all hT rfl rfl mem0 rfl)
      | (apply es_load; (iterate 5 exact rfl); first | exact ld_blk hT rfl rfl mem1 rfl rfl | exact ld_all hT rfl rfl mem1 rfl)
      | (apply es_load; (iterate 5 exact rfl); first | exact ld_blk hT rfl rfl mem2 rfl rfl | exact ld_all hT rfl rfl mem2 rfl)
      | (apply es_load; (iterate 5 exact rfl); first | exact ld_blk hT rfl rfl m1 rfl rfl | exact ld_all hT rfl rfl m1 rfl)
      | (apply es_load; (iterate 5 exact rfl); first | exact ld_blk hT rfl rfl (List.mem_cons_of_mem _ m1) rfl rfl | exact ld_all hT rfl rfl (List.mem_cons_of_mem _ m1) rfl)
      | (apply es_box; (iterate 5 exact rfl); intro _) | (apply es_alloc hT; (iterate 5 exact rfl); intro _)
      | (apply aw_condT; (iterate 2 exact rfl)) | (apply aw_condF; (iterate 2 exact rfl))
      | (apply es_case; exact rfl; all_goals intro hb; all_goals (try simp only [hb]); all_goals (first | replace hb := of_decide_eq_true hb | replace hb := of_decide_eq_false hb | replace hb := bne_t hb | replace hb := bne_f hb | skip); all_goals (try (exfalso; omega)))
      | (apply aw_cond; exact rfl; all_goals intro hb; all_goals (try simp only [hb]); all_goals (first | replace hb := of_decide_eq_true hb | replace hb := of_decide_eq_false hb | replace hb := bne_t hb | replace hb := bne_f hb | skip); all_goals (try (exfalso; omega))))
    apply ret2; exact rfl; exact rfl
    exact ⟨rfl, dt_end⟩

theorem ref_Same (W : World) (h : List Chunk) (A1 A2 : Option Addr) (c1 c2 : Nat) (l1 l2 : List Due) (hr1 : Reads W h A1 l1.length 3 (l1.flatMap Due.enc)) (hr2 : Reads W h A2 l2.length 3 (l2.flatMap Due.enc)) (hb : l1.length ≤ 1000000) :
    QSpec Try.prog W 27 [.slice A1 l1.length c1, .slice A2 l2.length c2] h (.bool (decide (l1 = l2))) := by
  refine QSpec.ofD (fun h' hs => ?_)
  have hr1 := hr1.mono hs
  have hr2 := hr2.mono hs
  refine spec_body Try.func27 rfl rfl Try.results27 Try.ntmps27 rfl rfl ?_
  refine aw_reads hr1 (by rfl) (fun hA1 => ?_)
  refine aw_reads hr2 (by rfl) (fun hA2 => ?_)
  by_cases hl : l1.length = l2.length
  · have hd : ((l1.length : Int) != (l2.length : Int)) = false := by simp [hl]
    repeat' (first
      | apply aw_seq | apply aw_region | apply aw_ret | apply aw_skip | apply aw_exit | apply aw_block | apply es_nil
      | (apply es_pure hT; (iterate 4 exact rfl)) | (apply es_skip; (iterate 3 exact rfl)) | (apply es_skip0; (iterate 2 exact rfl))
      | (apply es_i64 hT; (iterate 4 exact rfl); (iterate 2 omega))
      | (apply aw_draw [] [] hmix; decide +kernel)
      | (apply es_load; (iterate 5 exact rfl); first | exact ld_blk hT rfl rfl mem0 rfl rfl | exact ld_all hT rfl rfl mem0 rfl)
      | (apply es_load; (iterate 5 exact rfl); first | exact ld_blk hT rfl rfl mem1 rfl rfl | exact ld_all hT rfl rfl mem1 rfl)
      | (apply es_load; (iterate 5 exact rfl); first | exact ld_blk hT rfl rfl mem2 rfl rfl | exact ld_all hT rfl rfl mem2 rfl)
      | (apply es_box; (iterate 5 exact rfl); intro _) | (apply es_alloc hT; (iterate 5 exact rfl); intro _)
      | (apply aw_condT; (iterate 2 exact rfl)) | (apply aw_condF; (iterate 2 exact rfl))
      | (apply es_case; exact rfl; all_goals intro hb; all_goals (try simp only [hb]); all_goals (first | replace hb := of_decide_eq_true hb | replace hb := of_decide_eq_false hb | replace hb := bne_t hb | replace hb := bne_f hb | skip); all_goals (try (exfalso; omega)))
      | (apply aw_cond; exact rfl; all_goals intro hb; all_goals (try simp only [hb]); all_goals (first | replace hb := of_decide_eq_true hb | replace hb := of_decide_eq_false hb | replace hb := bne_t hb | replace hb := bne_f hb | skip); all_goals (try (exfalso; omega))))
    refine aw_loop (α := Nat) (E := fun k => [(0, .slice A1 l1.length c1), (1, .slice A2 l2.length c2), (5, .int .i64 k)]) (H := fun _ => h') (μ := fun k => l1.length - k)
      (S := fun k => k ≤ l1.length ∧ l1.take k = l2.take k) 0 (J := []) ⟨Nat.zero_le _, rfl⟩ ⟨rfl, rfl, rfl, trivial⟩ (List.Perm.refl _) ?_
    rintro k ⟨hk, he⟩
    by_cases hlt : k < l1.length
    · obtain ⟨x, hx⟩ : ∃ x, l1[k]? = some x := ⟨l1[k]'(by omega), List.getElem?_eq_getElem (by omega)⟩
      obtain ⟨y, hy⟩ : ∃ y, l2[k]? = some y := ⟨l2[k]'(by omega), List.getElem?_eq_getElem (by omega)⟩
      have hx2 : l1[(k : Int).toNat]? = some x := by simpa using hx
      have hy2 : l2[(k : Int).toNat]? = some y := by simpa using hy
      have hA1 := hA1 (by omega)
      have hA2 := hA2 (by omega)
      have hd1 : decide ((k : Int) < (l1.length : Int)) = true := by simp; omega
      repeat' (first
        | apply aw_seq | apply aw_region | apply aw_ret | apply aw_skip | apply aw_exit | apply aw_block | apply es_nil
        | (apply es_pure hT; (iterate 4 exact rfl)) | (apply es_skip; (iterate 3 exact rfl)) | (apply es_skip0; (iterate 2 exact rfl))
        | (apply es_i64 hT; (iterate 4 exact rfl); (iterate 2 omega))
        | (apply aw_draw [] [] hmix; decide +kernel)
        | (apply es_idx hT; (iterate 8 exact rfl); (iterate 2 omega); first | exact hA1 | exact hA2)
        | (apply es_load; (iterate 5 exact rfl); first | exact ld_elem hT rfl rfl hr1 Due.enc_len rfl hx2 rfl | exact ld_elem hT rfl rfl hr2 Due.enc_len rfl hy2 rfl)
        | (apply es_neS hT; (iterate 5 exact rfl); exact rfl; exact sOKDue)
        | (apply es_load; (iterate 5 exact rfl); first | exact ld_blk hT rfl rfl mem0 rfl rfl | exact ld_all hT rfl rfl mem0 rfl)
        | (apply es_load; (iterate 5 exact rfl); first | exact ld_blk hT rfl rfl mem1 rfl rfl | exact ld_all hT rfl rfl mem1 rfl)
        | (apply es_load; (iterate 5 exact rfl); first | exact ld_blk hT rfl rfl mem2 rfl rfl | exact ld_all hT rfl rfl mem2 rfl)
        | (apply es_box; (iterate 5 exact rfl); intro _) | (apply es_alloc hT; (iterate 5 exact rfl); intro _)
        | (apply aw_condT; (iterate 2 exact rfl)) | (apply aw_condF; (iterate 2 exact rfl))
        | (apply es_case; exact rfl; all_goals intro hb; all_goals (try simp only [hb]); all_goals (first | replace hb := of_decide_eq_true hb | replace hb := of_decide_eq_false hb | replace hb := bne_t hb | replace hb := bne_f hb | skip); all_goals (try (exfalso; omega)))
        | (apply aw_cond; exact rfl; all_goals intro hb; all_goals (try simp only [hb]); all_goals (first | replace hb := of_decide_eq_true hb | replace hb := of_decide_eq_false hb | replace hb := bne_t hb | replace hb := bne_f hb | skip); all_goals (try (exfalso; omega))))
      · have hxy : x ≠ y := fun e => by subst e; simp at hb
        apply ret1; exact rfl
        refine ⟨?_, dt_end⟩
        rw [decide_eq_false (fun e => hxy (by rw [e, hy] at hx; exact (Option.some.inj hx).symm))]
      · have hxy : x = y := by cases x; cases y; simpa using hb
        exact ⟨k + 1, [], by dsimp only; omega, ⟨by omega, by rw [List.take_add_one, List.take_add_one, he, hx, hy, hxy]⟩, ⟨rfl, rfl, rfl, trivial⟩, List.Perm.refl _⟩
    · have hd1 : decide ((k : Int) < (l1.length : Int)) = false := by simp; omega
      obtain rfl : k = l1.length := by omega
      repeat' (first
        | apply aw_seq | apply aw_region | apply aw_ret | apply aw_skip | apply aw_exit | apply aw_block | apply es_nil
        | (apply es_pure hT; (iterate 4 exact rfl)) | (apply es_skip; (iterate 3 exact rfl)) | (apply es_skip0; (iterate 2 exact rfl))
        | (apply es_i64 hT; (iterate 4 exact rfl); (iterate 2 omega))
        | (apply aw_draw [] [] hmix; decide +kernel)
        | (apply es_load; (iterate 5 exact rfl); first | exact ld_blk hT rfl rfl mem0 rfl rfl | exact ld_all hT rfl rfl mem0 rfl)
        | (apply es_load; (iterate 5 exact rfl); first | exact ld_blk hT rfl rfl mem1 rfl rfl | exact ld_all hT rfl rfl mem1 rfl)
        | (apply es_load; (iterate 5 exact rfl); first | exact ld_blk hT rfl rfl mem2 rfl rfl | exact ld_all hT rfl rfl mem2 rfl)
        | (apply es_box; (iterate 5 exact rfl); intro _) | (apply es_alloc hT; (iterate 5 exact rfl); intro _)
        | (apply aw_condT; (iterate 2 exact rfl)) | (apply aw_condF; (iterate 2 exact rfl))
        | (apply es_case; exact rfl; all_goals intro hb; all_goals (try simp only [hb]); all_goals (first | replace hb := of_decide_eq_true hb | replace hb := of_decide_eq_false hb | replace hb := bne_t hb | replace hb := bne_f hb | skip); all_goals (try (exfalso; omega)))
        | (apply aw_cond; exact rfl; all_goals intro hb; all_goals (try simp only [hb]); all_goals (first | replace hb := of_decide_eq_true hb | replace hb := of_decide_eq_false hb | replace hb := bne_t hb | replace hb := bne_f hb | skip); all_goals (try (exfalso; omega))))
      apply ret1; exact rfl
      refine ⟨?_, dt_end⟩
      rw [decide_eq_true (show l1 = l2 by rw [List.take_length] at he; rw [he, hl, List.take_length])]
  · have hd : ((l1.length : Int) != (l2.length : Int)) = true := by simp; omega
    repeat' (first
      | apply aw_seq | apply aw_region | apply aw_ret | apply aw_skip | apply aw_exit | apply aw_block | apply es_nil
      | (apply es_pure hT; (iterate 4 exact rfl)) | (apply es_skip; (iterate 3 exact rfl)) | (apply es_skip0; (iterate 2 exact rfl))
      | (apply es_i64 hT; (iterate 4 exact rfl); (iterate 2 omega))
      | (apply aw_draw [] [] hmix; decide +kernel)
      | (apply es_load; (iterate 5 exact rfl); first | exact ld_blk hT rfl rfl mem0 rfl rfl | exact ld_all hT rfl rfl mem0 rfl)
      | (apply es_load; (iterate 5 exact rfl); first | exact ld_blk hT rfl rfl mem1 rfl rfl | exact ld_all hT rfl rfl mem1 rfl)
      | (apply es_load; (iterate 5 exact rfl); first | exact ld_blk hT rfl rfl mem2 rfl rfl | exact ld_all hT rfl rfl mem2 rfl)
      | (apply es_box; (iterate 5 exact rfl); intro _) | (apply es_alloc hT; (iterate 5 exact rfl); intro _)
      | (apply aw_condT; (iterate 2 exact rfl)) | (apply aw_condF; (iterate 2 exact rfl))
      | (apply es_case; exact rfl; all_goals intro hb; all_goals (try simp only [hb]); all_goals (first | replace hb := of_decide_eq_true hb | replace hb := of_decide_eq_false hb | replace hb := bne_t hb | replace hb := bne_f hb | skip); all_goals (try (exfalso; omega)))
      | (apply aw_cond; exact rfl; all_goals intro hb; all_goals (try simp only [hb]); all_goals (first | replace hb := of_decide_eq_true hb | replace hb := of_decide_eq_false hb | replace hb := bne_t hb | replace hb := bne_f hb | skip); all_goals (try (exfalso; omega))))
    apply ret1; exact rfl
    refine ⟨?_, dt_end⟩
    rw [decide_eq_false (fun e => hl (by rw [e]))]

theorem ref_Add (W : World) (q : Nat) (A : Option Addr) (c : Nat) (l : List Due) (F B : List Chunk) (d : Due) (hr : RefD W B A c l) (hb : l.length ≤ 1000000) (hrow : RowD l) :
    FSpec Try.prog W 25 [.pointer (some ⟨q, 0, none⟩), .agg d.enc.toArray] (refRow q A c l F B)
      (fun v h' => v = .bool (decide (idxOf (hasD d.kind d.id) l < 0)) ∧ ∃ A' c' B', h' = refRow q A' c' (addD l d) F B' ∧ RefD W B' A' c' (addD l d)) := by
  have hrd : Reads W (refRow q A c l F B) A l.length 3 (l.flatMap Due.enc) := hr.rd.mono fun x hx => List.mem_cons_of_mem _ (List.mem_append_right _ hx)
  have hnc := hr.nc
  have hcc := hr.cc
  refine FSpec.dropF ?_
  refine spec_body Try.func25 rfl rfl Try.results25 Try.ntmps25 rfl rfl ?_
  refine aw_reads hrd (by rfl) (fun hA => ?_)
  repeat' (first
    | apply aw_seq | apply aw_region | apply aw_ret | apply aw_skip | apply aw_exit | apply aw_block | apply es_nil
    | (apply es_pure hT; (iterate 4 exact rfl)) | (apply es_skip; (iterate 3 exact rfl)) | (apply es_skip0; (iterate 2 exact rfl))
    | (apply es_i64 hT; (iterate 4 exact rfl); (iterate 2 omega))
    | (apply aw_draw [] [] hmix; decide +kernel)
    | (apply es_load; (iterate 5 exact rfl); first | exact ld_blk hT rfl rfl mem0 rfl rfl | exact ld_all hT rfl rfl mem0 rfl)
    | (apply es_load; (iterate 5 exact rfl); first | exact ld_blk hT rfl rfl mem1 rfl rfl | exact ld_all hT rfl rfl mem1 rfl)
    | (apply es_load; (iterate 5 exact rfl); first | exact ld_blk hT rfl rfl mem2 rfl rfl | exact ld_all hT rfl rfl mem2 rfl)
    | (apply es_box; (iterate 5 exact rfl); intro _) | (apply es_alloc hT; (iterate 5 exact rfl); intro _)
    | (apply aw_condT; (iterate 2 exact rfl)) | (apply aw_condF; (iterate 2 exact rfl))
    | (apply es_case; exact rfl; all_goals intro hb; all_goals (try simp only [hb]); all_goals (first | replace hb := of_decide_eq_true hb | replace hb := of_decide_eq_false hb | replace hb := bne_t hb | replace hb := bne_f hb | skip); all_goals (try (exfalso; omega)))
    | (apply aw_cond; exact rfl; all_goals intro hb; all_goals (try simp only [hb]); all_goals (first | replace hb := of_decide_eq_true hb | replace hb := of_decide_eq_false hb | replace hb := bne_t hb | replace hb := bne_f hb | skip); all_goals (try (exfalso; omega))))
  rename_i gd
  refine aw_loop (α := Nat × Nat) (E := fun x => [(0, .pointer (some ⟨q, 0, none⟩)), (3, .pointer (some ⟨gd, 0, none⟩)), (5, .int .i64 x.2), (6, .int .i64 x.1)]) (H := fun _ => .blk gd 39 d.enc :: refRow q A c l F B) (μ := fun x => l.length - x.1)
    (S := fun x => x.1 ≤ l.length ∧ x.2 ≤ x.1 ∧ (∀ j y, j < x.1 → l[j]? = some y → hasD d.kind d.id y = false) ∧ (∀ (j : Nat) y, j < x.2 → l[j]? = some y → ordD y d < 0) ∧ (∀ (j : Nat) y, x.2 ≤ j → j < x.1 → l[j]? = some y → ¬ ordD y d < 0))
    (0, 0) (J := []) ⟨Nat.zero_le _, Nat.zero_le _, fun j y hj => absurd hj (Nat.not_lt_zero _), fun j y hj => absurd hj (Nat.not_lt_zero _), fun j y _ hj => absurd hj (Nat.not_lt_zero _)⟩ ⟨rfl, rfl, rfl, rfl, trivial⟩ (List.Perm.refl _) ?_
  rintro ⟨k, m⟩ ⟨s1, s2, s3, s4, s5⟩
  dsimp only at s1 s2 s3 s4 s5 ⊢
  have hrd2 : Reads W (.blk gd 39 d.enc :: refRow q A c l F B) A l.length 3 (l.flatMap Due.enc) := hrd.cons
  by_cases hlt : k < l.length
  · obtain ⟨x, hx⟩ : ∃ x, l[k]? = some x := ⟨l[k]'(by omega), List.getElem?_eq_getElem (by omega)⟩
    have hx2 : l[(k : Int).toNat]? = some x := by simpa using hx
    have hA := hA (by omega)
    have hd1 : decide ((k : Int) < (l.length : Int)) = true := by simp; omega
    have e3 : ¬ (x.kind = d.kind ∧ x.id = d.id) → ∀ j y, j < k + 1 → l[j]? = some y → hasD d.kind d.id y = false := fun hn j y hj hy => by
      by_cases hjk : j = k
      · subst hjk; rw [hx] at hy; cases hy
        cases hh : hasD d.kind d.id x
        · rfl
        · exact absurd (hasD_iff.1 hh) hn
      · exact s3 j y (by omega) hy
    have e4 : ordD x d < 0 → ∀ (j : Nat) y, j < k + 1 → l[j]? = some y → ordD y d < 0 := fun hn j y hj hy => hrow.mono j k y x (by omega) hy hx hn
    have e5 : ¬ ordD x d < 0 → ∀ (j : Nat) y, m ≤ j → j < k + 1 → l[j]? = some y → ¬ ordD y d < 0 := fun hn j y h1 hj hy => by
      by_cases hjk : j = k
      · subst hjk; rw [hx] at hy; cases hy; exact hn
      · exact s5 j y h1 (by omega) hy
    have hless := (ref_less W x d).mono (h' := .blk gd 39 d.enc :: refRow q A c l F B) (by simp)
    repeat' (first
      | apply aw_seq | apply aw_region | apply aw_ret | apply aw_skip | apply aw_exit | apply aw_block | apply es_nil
      | (apply es_pure hT; (iterate 4 exact rfl)) | (apply es_skip; (iterate 3 exact rfl)) | (apply es_skip0; (iterate 2 exact rfl))
      | (apply es_i64 hT; (iterate 4 exact rfl); (iterate 2 omega))
      | (apply aw_draw [70] [] hmix; decide +kernel)
      | (apply es_idx hT; (iterate 8 exact rfl); (iterate 2 omega); exact hA)
      | (apply es_load; (iterate 5 exact rfl); first | exact ld_fld hT rfl rfl hrd2 Due.enc_len (adr_add _ _ _) hx2 (by decide) rfl | exact ld_elem hT rfl rfl hrd2 Due.enc_len rfl hx2 rfl)
      | (apply es_callQ (hs := hless); (iterate 7 exact rfl))
      | (apply es_load; (iterate 5 exact rfl); first | exact ld_blk hT rfl rfl mem0 rfl rfl | exact ld_all hT rfl rfl mem0 rfl)
      | (apply es_load; (iterate 5 exact rfl); first | exact ld_blk hT rfl rfl mem1 rfl rfl | exact ld_all hT rfl rfl mem1 rfl)
      | (apply es_load; (iterate 5 exact rfl); first | exact ld_blk hT rfl rfl mem2 rfl rfl | exact ld_all hT rfl rfl mem2 rfl)
      | (apply es_load; (iterate 5 exact rfl); first | exact ld_blk hT rfl rfl mem1 rfl rfl | exact ld_all hT rfl rfl mem1 rfl)
      | (apply es_load; (iterate 5 exact rfl); first | exact ld_blk hT rfl rfl (List.mem_cons_of_mem _ mem1) rfl rfl | exact ld_all hT rfl rfl (List.mem_cons_of_mem _ mem1) rfl)
      | (apply es_box; (iterate 5 exact rfl); intro _) | (apply es_alloc hT; (iterate 5 exact rfl); intro _)
      | (apply aw_condT; (iterate 2 exact rfl)) | (apply aw_condF; (iterate 2 exact rfl))
      | (apply es_case; exact rfl; all_goals intro hb; all_goals (try simp only [hb]); all_goals (first | replace hb := of_decide_eq_true hb | replace hb := of_decide_eq_false hb | replace hb := bne_t hb | replace hb := bne_f hb | skip); all_goals (try (exfalso; omega)))
      | (apply aw_cond; exact rfl; all_goals intro hb; all_goals (try simp only [hb]); all_goals (first | replace hb := of_decide_eq_true hb | replace hb := of_decide_eq_false hb | replace hb := bne_t hb | replace hb := bne_f hb | skip); all_goals (try (exfalso; omega))))
    all_goals first
      | exact ⟨(k + 1, k + 1), [], by dsimp only; omega, ⟨by dsimp only; omega, Nat.le_refl _, e3 (by rintro ⟨h1, h2⟩; contradiction), e4 ‹_›, fun j y h1 h2 => absurd h1 (by dsimp only at *; omega)⟩, ⟨rfl, rfl, rfl, rfl, trivial⟩, List.Perm.refl _⟩
      | exact ⟨(k + 1, m), [], by dsimp only; omega, ⟨by dsimp only; omega, by dsimp only; omega, e3 (by rintro ⟨h1, h2⟩; contradiction), s4, e5 ‹_›⟩, ⟨rfl, rfl, rfl, rfl, trivial⟩, List.Perm.refl _⟩
      | skip
    have hi : ¬ idxOf (hasD d.kind d.id) l < 0 := by rw [idxOf_at hx (hasD_iff.2 ⟨‹_›, ‹_›⟩) (fun j y hj hy => s3 j y hj hy)]; omega
    have e : addD l d = l := by simp [addD, hi]
    apply ret1; exact rfl
    exact ⟨refRow q A c l F B, dt_skip dt_end, fun w hw => ⟨by simp [hi], A, c, B, by rw [e], by rw [e]; exact hr⟩⟩
  · obtain rfl : k = l.length := by omega
    have hd1 : decide ((l.length : Int) < (l.length : Int)) = false := by simp
    have hi : idxOf (hasD d.kind d.id) l < 0 := by
      rw [idxOf_neg]; intro x hx
      obtain ⟨i, hi⟩ := List.getElem?_of_mem hx
      exact s3 i x (List.getElem?_eq_some_iff.1 hi).1 hi
    have hbs : bsN (ordD · d) l = m := bsN_eq (by omega) s4 (fun y hy => s5 m y (Nat.le_refl _) (List.getElem?_eq_some_iff.1 hy).1 hy)
    have hAd : addD l d = insD l d := by simp [addD, hi]
    have hlenI : (insD l d).length = 0 + (m : Int).toNat + 1 + (l.length - (m : Int).toNat) := by rw [insD_len]; simp; omega
    have hcs : ([] : List Value) ++ (l.flatMap Due.enc).take (m * 3) ++ d.enc ++ ((l.flatMap Due.enc).drop (m * 3)).take ((l.length - m) * 3) = (insD l d).flatMap Due.enc := by
      have e : (l.drop m).take (l.length - m) = l.drop m := List.take_of_length_le (by simp)
      rw [flat_take Due.enc_len, flat_drop Due.enc_len, flat_take Due.enc_len, e, insD, hbs]; simp
    have R1 := hrd2.take s2
    have R2 := hrd2.cut hnc s2 (Nat.le_refl _)
    repeat' (first
      | apply aw_seq | apply aw_region | apply aw_ret | apply aw_skip | apply aw_exit | apply aw_block | apply es_nil
      | (apply es_pure hT; (iterate 4 exact rfl)) | (apply es_skip; (iterate 3 exact rfl)) | (apply es_skip0; (iterate 2 exact rfl))
      | (apply es_i64 hT; (iterate 4 exact rfl); (iterate 2 omega))
      | (apply aw_tree [] [] (.step 0 <| .step 2 <| .step 3 <| .step 4 <| .step 5 <| .step 6 <| .step 7 <| .step 9 <| .step 12 <| .step 13 <| .step 14 <| .step 15 <| .step 16 <| .step 17 <| .alt (.step 1 <| .alt (.step 8 <| .step 10 <| .step 11 <| .step 18 <| .step 19 <| .step 20 <| .step 21 <| .nil) ((.step 10 <| .step 8 <| .step 11 <| .step 18 <| .step 19 <| .step 20 <| .step 21 <| .nil))) ((.step 10 <| .step 1 <| .step 8 <| .step 11 <| .step 18 <| .step 19 <| .step 20 <| .step 21 <| .nil))) hmix; decide +kernel) | apply ep_nil | apply ep_alt | (apply ep_step; exact rfl)
      | (apply es_sliceTo hT; (iterate 8 exact rfl); (iterate 2 omega))
      | (apply es_sliceFrom hT; (iterate 8 exact rfl); (iterate 3 omega); exact rfl)
      | (apply es_buildSlice hT; (iterate 12 exact rfl); intro g)
      | (apply es_appendG hT; (iterate 10 exact rfl); (first | exact sel0 | exact sel1 | exact selS sel1 | exact selS (selS sel1) | exact selS (selS (selS sel1)) | exact selS (selS (selS (selS sel1))) | exact selS (selS (selS (selS (selS sel1)))) | exact selS (selS (selS (selS (selS (selS sel1)))))); (first | (refine R1.mono ?_; (first | exact fun _ h => h | exact fun _ h => .tail _ h | exact fun _ h => .tail _ (.tail _ h) | exact fun _ h => .tail _ (.tail _ (.tail _ h)) | exact fun _ h => .tail _ (.tail _ (.tail _ (.tail _ h))))) | (refine R2.mono ?_; (first | exact fun _ h => h | exact fun _ h => .tail _ h | exact fun _ h => .tail _ (.tail _ h) | exact fun _ h => .tail _ (.tail _ (.tail _ h)) | exact fun _ h => .tail _ (.tail _ (.tail _ (.tail _ h))))) | exact Reads.own mem0 rfl (Due.enc_one d) | exact Reads.own mem1 rfl (Due.enc_one d) | exact Reads.own mem2 rfl (Due.enc_one d)); (first | exact fun _ h => h | exact fun _ h => .tail _ h | exact fun _ h => .tail _ (.tail _ h) | exact fun _ h => .tail _ (.tail _ (.tail _ h)) | exact fun _ h => .tail _ (.tail _ (.tail _ (.tail _ h)))); omega; (show (_ : Nat) * 24 ≤ _; omega); intro A' c')
      | (apply es_store hT; (iterate 6 exact rfl); (first | exact sel0 | exact sel1 | exact selS sel1 | exact selS (selS sel1) | exact selS (selS (selS sel1)) | exact selS (selS (selS (selS sel1))) | exact selS (selS (selS (selS (selS sel1)))) | exact selS (selS (selS (selS (selS (selS sel1)))))); (iterate 3 exact rfl); exact Nat.le_of_ble_eq_true rfl)
      | ((first | (apply es_load; (iterate 5 exact rfl)) | (apply es_loadL; (iterate 5 exact rfl); first | exact fun _ h => h)); first | exact ld_blk hT rfl rfl mem0 rfl rfl | exact ld_all hT rfl rfl mem0 rfl)
      | ((first | (apply es_load; (iterate 5 exact rfl)) | (apply es_loadL; (iterate 5 exact rfl); first | exact fun _ h => h)); first | exact ld_blk hT rfl rfl mem1 rfl rfl | exact ld_all hT rfl rfl mem1 rfl)
      | ((first | (apply es_load; (iterate 5 exact rfl)) | (apply es_loadL; (iterate 5 exact rfl); first | exact fun _ h => h)); first | exact ld_blk hT rfl rfl mem2 rfl rfl | exact ld_all hT rfl rfl mem2 rfl)
      | ((first | (apply es_load; (iterate 5 exact rfl)) | (apply es_loadL; (iterate 5 exact rfl); first | exact fun _ h => h)); first | exact ld_blk hT rfl rfl mem1 rfl rfl | exact ld_all hT rfl rfl mem1 rfl)
      | ((first | (apply es_load; (iterate 5 exact rfl)) | (apply es_loadL; (iterate 5 exact rfl); first | exact fun _ h => h)); first | exact ld_blk hT rfl rfl (List.mem_cons_of_mem _ mem1) rfl rfl | exact ld_all hT rfl rfl (List.mem_cons_of_mem _ mem1) rfl)
      | ((first | (apply es_load; (iterate 5 exact rfl)) | (apply es_loadL; (iterate 5 exact rfl); first | exact fun _ h => h)); first | exact ld_blk hT rfl rfl (List.mem_cons_of_mem _ (List.mem_cons_of_mem _ mem1)) rfl rfl | exact ld_all hT rfl rfl (List.mem_cons_of_mem _ (List.mem_cons_of_mem _ mem1)) rfl)
      | ((first | (apply es_load; (iterate 5 exact rfl)) | (apply es_loadL; (iterate 5 exact rfl); first | exact fun _ h => h)); first | exact ld_blk hT rfl rfl (List.mem_cons_of_mem _ (List.mem_cons_of_mem _ (List.mem_cons_of_mem _ mem1))) rfl rfl | exact ld_all hT rfl rfl (List.mem_cons_of_mem _ (List.mem_cons_of_mem _ (List.mem_cons_of_mem _ mem1))) rfl)
      | (apply es_box; (iterate 5 exact rfl); intro _) | (apply es_alloc hT; (iterate 5 exact rfl); intro _)
      | (apply aw_condT; (iterate 2 exact rfl)) | (apply aw_condF; (iterate 2 exact rfl))
      | (apply es_case; exact rfl; all_goals intro hb; all_goals (try simp only [hb]); all_goals (first | replace hb := of_decide_eq_true hb | replace hb := of_decide_eq_false hb | replace hb := bne_t hb | replace hb := bne_f hb | skip); all_goals (try (exfalso; omega)))
      | (apply aw_cond; exact rfl; all_goals intro hb; all_goals (try simp only [hb]); all_goals (first | replace hb := of_decide_eq_true hb | replace hb := of_decide_eq_false hb | replace hb := bne_t hb | replace hb := bne_f hb | skip); all_goals (try (exfalso; omega))))
    all_goals
      apply ret1; exact rfl
      refine ⟨refRow q A' c' (addD l d) F (.own A' (addD l d).length c' 39 3 ((addD l d).flatMap Due.enc) :: B), ?_, fun w hw => ⟨by simp [hi], A', c', _, rfl, ?_⟩⟩
      · show DropTo _ (.blk q 47 [.slice A' (addD l d).length c'] :: (F ++ .own A' (addD l d).length c' 39 3 ((addD l d).flatMap Due.enc) :: B))
        rw [hAd, hlenI, ← hcs]
        apply dt_cons; (first | exact sel0 | exact sel1 | exact selS sel1 | exact selS (selS sel1) | exact selS (selS (selS sel1)) | exact selS (selS (selS (selS sel1))) | exact selS (selS (selS (selS (selS sel1)))) | exact selS (selS (selS (selS (selS (selS sel1))))))
        apply dt_mid
        apply dt_cons; (first | exact sel0 | exact sel1 | exact selS sel1 | exact selS (selS sel1) | exact selS (selS (selS sel1)) | exact selS (selS (selS (selS sel1))) | exact selS (selS (selS (selS (selS sel1)))) | exact selS (selS (selS (selS (selS (selS sel1))))))
        (repeat (first | exact dt_end | apply dt_skip))
      · have ho := hw.ownF (List.mem_cons_of_mem _ (List.mem_append_right _ mem0))
        exact ⟨ho.reads mem0, ho.nc, ho.cc⟩

theorem ref_Drop (W : World) (q : Nat) (A : Option Addr) (c : Nat) (l : List Due) (F B : List Chunk) (kind id : Int) (hr : RefD W B A c l) (hb : l.length ≤ 1000000) (hrow : RowD l) :
    FSpec Try.prog W 26 [.pointer (some ⟨q, 0, none⟩), .int .i64 kind, .int .i64 id] (refRow q A c l F B)
      (fun v h' => v = .bool (decide (¬ idxOf (hasD kind id) l < 0)) ∧ ∃ A' c' B', h' = refRow q A' c' (dropD l kind id) F B' ∧ RefD W B' A' c' (dropD l kind id)) := by
  have hrd : Reads W (refRow q A c l F B) A l.length 3 (l.flatMap Due.enc) := hr.rd.mono fun x hx => List.mem_cons_of_mem _ (List.mem_append_right _ hx)
  refine FSpec.dropF ?_
  refine spec_body Try.func26 rfl rfl Try.results26 Try.ntmps26 rfl rfl ?_
  refine aw_reads hrd (by rfl) (fun hA => ?_)
  repeat' (first
    | apply aw_seq | apply aw_region | apply aw_ret | apply aw_skip | apply aw_exit | apply aw_block | apply es_nil
    | (apply es_pure hT; (iterate 4 exact rfl)) | (apply es_skip; (iterate 3 exact rfl)) | (apply es_skip0; (iterate 2 exact rfl))
    | (apply es_i64 hT; (iterate 4 exact rfl); (iterate 2 omega))
    | (apply aw_draw [] [] hmix; decide +kernel)
    | (apply es_load; (iterate 5 exact rfl); first | exact ld_blk hT rfl rfl mem0 rfl rfl | exact ld_all hT rfl rfl mem0 rfl)
    | (apply es_load; (iterate 5 exact rfl); first | exact ld_blk hT rfl rfl mem1 rfl rfl | exact ld_all hT rfl rfl mem1 rfl)
    | (apply es_load; (iterate 5 exact rfl); first | exact ld_blk hT rfl rfl mem2 rfl rfl | exact ld_all hT rfl rfl mem2 rfl)
    | (apply es_box; (iterate 5 exact rfl); intro _) | (apply es_alloc hT; (iterate 5 exact rfl); intro _)
    | (apply aw_condT; (iterate 2 exact rfl)) | (apply aw_condF; (iterate 2 exact rfl))
    | (apply es_case; exact rfl; all_goals intro hb; all_goals (try simp only [hb]); all_goals (first | replace hb := of_decide_eq_true hb | replace hb := of_decide_eq_false hb | replace hb := bne_t hb | replace hb := bne_f hb | skip); all_goals (try (exfalso; omega)))
    | (apply aw_cond; exact rfl; all_goals intro hb; all_goals (try simp only [hb]); all_goals (first | replace hb := of_decide_eq_true hb | replace hb := of_decide_eq_false hb | replace hb := bne_t hb | replace hb := bne_f hb | skip); all_goals (try (exfalso; omega))))
  refine aw_conv (fun w hw => ⟨_, hw.own_nil 39 3, ?_⟩)
  have hfl : ∀ k, ((l.take k).filter (fun d => !hasD kind id d)).length ≤ k := fun k => by
    have := List.length_filter_le (fun d => !hasD kind id d) (l.take k); simp at this; omega
  refine aw_loop (α := Nat × Option Addr × Nat) (E := fun x => [(0, .pointer (some ⟨q, 0, none⟩)), (1, .int .i64 kind), (2, .int .i64 id), (7, .slice x.2.1 ((l.take x.1).filter (fun d => !hasD kind id d)).length x.2.2), (8, .int .i64 x.1)])
    (H := fun x => .own x.2.1 ((l.take x.1).filter (fun d => !hasD kind id d)).length x.2.2 39 3 (((l.take x.1).filter (fun d => !hasD kind id d)).flatMap Due.enc) :: refRow q A c l F B) (μ := fun x => l.length - x.1)
    (S := fun x => x.1 ≤ l.length) (0, none, 0) (J := []) (Nat.zero_le _) ⟨rfl, rfl, rfl, rfl, rfl, trivial⟩ (List.Perm.refl _) ?_
  rintro ⟨k, A7, c7⟩ hk
  dsimp only at hk ⊢
  have hrd2 := fun X => hrd.cons (c := X)
  have hfk := hfl k
  by_cases hlt : k < l.length
  · obtain ⟨x, hx⟩ : ∃ x, l[k]? = some x := ⟨l[k]'(by omega), List.getElem?_eq_getElem (by omega)⟩
    have hx2 : l[(k : Int).toNat]? = some x := by simpa using hx
    have hA := hA (by omega)
    have hd1 : decide ((k : Int) < (l.length : Int)) = true := by simp; omega
    have hstep : (l.take (k + 1)).filter (fun d => !hasD kind id d) = (l.take k).filter (fun d => !hasD kind id d) ++ if hasD kind id x then [] else [x] := by
      rw [List.take_add_one, hx, List.filter_append]
      cases hh : hasD kind id x <;> simp [hh]
    have key : ¬ (x.kind = kind ∧ x.id = id) → ∀ A' c', DropTo (.own A' (((l.take k).filter (fun d => !hasD kind id d)).length + 1) c' 39 3 (((l.take k).filter (fun d => !hasD kind id d)).flatMap Due.enc ++ x.enc) :: refRow q A c l F B)
        (.own A' ((l.take (k + 1)).filter (fun d => !hasD kind id d)).length c' 39 3 (((l.take (k + 1)).filter (fun d => !hasD kind id d)).flatMap Due.enc) :: refRow q A c l F B) := fun hn A' c' => by
      have hh : hasD kind id x = false := by
        cases hh : hasD kind id x
        · rfl
        · exact absurd (hasD_iff.1 hh) hn
      rw [hstep, hh]
      simp only [Bool.false_eq_true, if_false, List.length_append, List.length_cons, List.length_nil, List.flatMap_append, List.flatMap_cons, List.flatMap_nil, List.append_nil]
      exact dt_end
    have kval : ¬ (x.kind = kind ∧ x.id = id) → ∀ A' c', Value.slice A' (((l.take k).filter (fun d => !hasD kind id d)).length + 1) c' = .slice A' ((l.take (k + 1)).filter (fun d => !hasD kind id d)).length c' := fun hn A' c' => by
      have hh : hasD kind id x = false := by
        cases hh : hasD kind id x
        · rfl
        · exact absurd (hasD_iff.1 hh) hn
      rw [hstep, hh]; simp
    repeat' (first
      | apply aw_seq | apply aw_region | apply aw_ret | apply aw_skip | apply aw_exit | apply aw_block | apply es_nil
      | (apply es_pure hT; (iterate 4 exact rfl)) | (apply es_skip; (iterate 3 exact rfl)) | (apply es_skip0; (iterate 2 exact rfl))
      | (apply es_i64 hT; (iterate 4 exact rfl); (iterate 2 omega))
      | (apply aw_draw [] [] hmix; decide +kernel)
      | (apply es_idx hT; (iterate 8 exact rfl); (iterate 2 omega); exact hA)
      | (apply es_load; (iterate 5 exact rfl); first | exact ld_fld hT rfl rfl (hrd2 _) Due.enc_len (adr_add _ _ _) hx2 (by decide) rfl | exact ld_elem hT rfl rfl (hrd2 _) Due.enc_len rfl hx2 rfl)
      | (apply es_buildSlice hT; (iterate 12 exact rfl); intro g)
      | (apply es_append hT; (iterate 10 exact rfl); (first | exact sel0 | exact sel1 | exact selS sel1 | exact selS (selS sel1) | exact selS (selS (selS sel1)) | exact selS (selS (selS (selS sel1))) | exact selS (selS (selS (selS (selS sel1)))) | exact selS (selS (selS (selS (selS (selS sel1)))))); exact Reads.own mem0 rfl (Due.enc_one x); omega; (show (_ : Nat) * 24 ≤ _; omega); intro A' c')
      | (apply es_load; (iterate 5 exact rfl); first | exact ld_blk hT rfl rfl mem0 rfl rfl | exact ld_all hT rfl rfl mem0 rfl)
      | (apply es_load; (iterate 5 exact rfl); first | exact ld_blk hT rfl rfl mem1 rfl rfl | exact ld_all hT rfl rfl mem1 rfl)
      | (apply es_load; (iterate 5 exact rfl); first | exact ld_blk hT rfl rfl mem2 rfl rfl | exact ld_all hT rfl rfl mem2 rfl)
      | (apply es_load; (iterate 5 exact rfl); first | exact ld_blk hT rfl rfl mem1 rfl rfl | exact ld_all hT rfl rfl mem1 rfl)
      | (apply es_load; (iterate 5 exact rfl); first | exact ld_blk hT rfl rfl (List.mem_cons_of_mem _ mem1) rfl rfl | exact ld_all hT rfl rfl (List.mem_cons_of_mem _ mem1) rfl)
      | (apply es_box; (iterate 5 exact rfl); intro _) | (apply es_alloc hT; (iterate 5 exact rfl); intro _)
      | (apply aw_condT; (iterate 2 exact rfl)) | (apply aw_condF; (iterate 2 exact rfl))
      | (apply es_case; exact rfl; all_goals intro hb; all_goals (try simp only [hb]); all_goals (first | replace hb := of_decide_eq_true hb | replace hb := of_decide_eq_false hb | replace hb := bne_t hb | replace hb := bne_f hb | skip); all_goals (try (exfalso; omega)))
      | (apply aw_cond; exact rfl; all_goals intro hb; all_goals (try simp only [hb]); all_goals (first | replace hb := of_decide_eq_true hb | replace hb := of_decide_eq_false hb | replace hb := bne_t hb | replace hb := bne_f hb | skip); all_goals (try (exfalso; omega))))
    · have hn : ¬ (x.kind = kind ∧ x.id = id) := by rintro ⟨h1, h2⟩; contradiction
      exact loopq_end (k + 1, A', c') (by dsimp only; omega) (by dsimp only; omega) ⟨rfl, rfl, rfl, congrArg some (kval hn A' c'), rfl, trivial⟩ (dt_trans (by apply dt_cons; (first | exact sel0 | exact sel1 | exact selS sel1 | exact selS (selS sel1) | exact selS (selS (selS sel1)) | exact selS (selS (selS (selS sel1))) | exact selS (selS (selS (selS (selS sel1)))) | exact selS (selS (selS (selS (selS (selS sel1)))))); (repeat (first | exact dt_end | apply dt_skip))) (key hn A' c'))
    · have hn : ¬ (x.kind = kind ∧ x.id = id) := by rintro ⟨h1, h2⟩; contradiction
      exact loopq_end (k + 1, A', c') (by dsimp only; omega) (by dsimp only; omega) ⟨rfl, rfl, rfl, congrArg some (kval hn A' c'), rfl, trivial⟩ (dt_trans (by apply dt_cons; (first | exact sel0 | exact sel1 | exact selS sel1 | exact selS (selS sel1) | exact selS (selS (selS sel1)) | exact selS (selS (selS (selS sel1))) | exact selS (selS (selS (selS (selS sel1)))) | exact selS (selS (selS (selS (selS (selS sel1)))))); (repeat (first | exact dt_end | apply dt_skip))) (key hn A' c'))
    · have hs : (l.take (k + 1)).filter (fun d => !hasD kind id d) = (l.take k).filter (fun d => !hasD kind id d) := by
        rw [hstep, hasD_iff.2 ⟨‹_›, ‹_›⟩]; simp
      refine loopq_end (k + 1, A7, c7) (by dsimp only; omega) (by dsimp only; omega) ?_ ?_
      · dsimp only; rw [hs]; exact ⟨rfl, rfl, rfl, rfl, rfl, trivial⟩
      · dsimp only; rw [hs]; exact dt_end
  · obtain rfl : k = l.length := by omega
    have hfil : (l.take l.length).filter (fun d => !hasD kind id d) = dropD l kind id := by rw [List.take_length]; exact dropD_filter hrow.once
    rw [hfil]
    have hd1 : decide ((l.length : Int) < (l.length : Int)) = false := by simp
    have hval : decide (((dropD l kind id).length : Int) < (l.length : Int)) = decide (¬ idxOf (hasD kind id) l < 0) := by
      rw [decide_eq_decide]
      have h1 := idxOf_lt (p := hasD kind id) (l := l)
      by_cases hi : idxOf (hasD kind id) l < 0
      · simp [dropD, hi]
      · have := dropD_len hi
        simp only [hi, not_false_eq_true, iff_true]; omega
    repeat' (first
      | apply aw_seq | apply aw_region | apply aw_ret | apply aw_skip | apply aw_exit | apply aw_block | apply es_nil
      | (apply es_pure hT; (iterate 4 exact rfl)) | (apply es_skip; (iterate 3 exact rfl)) | (apply es_skip0; (iterate 2 exact rfl))
      | (apply es_i64 hT; (iterate 4 exact rfl); (iterate 2 omega))
      | (apply aw_draw [] [] hmix; decide +kernel)
      | (apply es_store hT; (iterate 6 exact rfl); (first | exact sel0 | exact sel1 | exact selS sel1 | exact selS (selS sel1) | exact selS (selS (selS sel1)) | exact selS (selS (selS (selS sel1))) | exact selS (selS (selS (selS (selS sel1)))) | exact selS (selS (selS (selS (selS (selS sel1)))))); (iterate 3 exact rfl); exact Nat.le_of_ble_eq_true rfl)
      | (apply es_load; (iterate 5 exact rfl); first | exact ld_blk hT rfl rfl mem0 rfl rfl | exact ld_all hT rfl rfl mem0 rfl)
      | (apply es_load; (iterate 5 exact rfl); first | exact ld_blk hT rfl rfl mem1 rfl rfl | exact ld_all hT rfl rfl mem1 rfl)
      | (apply es_load; (iterate 5 exact rfl); first | exact ld_blk hT rfl rfl mem2 rfl rfl | exact ld_all hT rfl rfl mem2 rfl)
      | (apply es_load; (iterate 5 exact rfl); first | exact ld_blk hT rfl rfl mem1 rfl rfl | exact ld_all hT rfl rfl mem1 rfl)
      | (apply es_load; (iterate 5 exact rfl); first | exact ld_blk hT rfl rfl (List.mem_cons_of_mem _ mem1) rfl rfl | exact ld_all hT rfl rfl (List.mem_cons_of_mem _ mem1) rfl)
      | (apply es_box; (iterate 5 exact rfl); intro _) | (apply es_alloc hT; (iterate 5 exact rfl); intro _)
      | (apply aw_condT; (iterate 2 exact rfl)) | (apply aw_condF; (iterate 2 exact rfl))
      | (apply es_case; exact rfl; all_goals intro hb; all_goals (try simp only [hb]); all_goals (first | replace hb := of_decide_eq_true hb | replace hb := of_decide_eq_false hb | replace hb := bne_t hb | replace hb := bne_f hb | skip); all_goals (try (exfalso; omega)))
      | (apply aw_cond; exact rfl; all_goals intro hb; all_goals (try simp only [hb]); all_goals (first | replace hb := of_decide_eq_true hb | replace hb := of_decide_eq_false hb | replace hb := bne_t hb | replace hb := bne_f hb | skip); all_goals (try (exfalso; omega))))
    apply ret1; exact rfl
    refine ⟨refRow q A7 c7 (dropD l kind id) F (.own A7 (dropD l kind id).length c7 39 3 ((dropD l kind id).flatMap Due.enc) :: B), ?_, fun w hw => ⟨by rw [← hval], A7, c7, _, rfl, ?_⟩⟩
    · apply dt_cons; (first | exact sel0 | exact sel1 | exact selS sel1 | exact selS (selS sel1) | exact selS (selS (selS sel1)) | exact selS (selS (selS (selS sel1))) | exact selS (selS (selS (selS (selS sel1)))) | exact selS (selS (selS (selS (selS (selS sel1))))))
      apply dt_mid
      exact dt_end
    · have ho := hw.ownF (List.mem_cons_of_mem _ (List.mem_append_right _ mem0))
      exact ⟨ho.reads mem0, ho.nc, ho.cc⟩

theorem ref_Take (W : World) (q : Nat) (A : Option Addr) (c : Nat) (l : List Due) (F B : List Chunk) (tick : Int) (hr : RefD W B A c l) (hb : l.length ≤ 1000000) :
    FSpec Try.prog W 28 [.pointer (some ⟨q, 0, none⟩), .int .i64 tick] (refRow q A c l F B)
      (fun v h' => ∃ A1 c1 A' c' B', v = .slice A1 (takeN l tick) c1 ∧ h' = refRow q A' c' (l.drop (takeN l tick)) F B' ∧ RefD W B' A' c' (l.drop (takeN l tick)) ∧ Reads W B' A1 (takeN l tick) 3 ((l.take (takeN l tick)).flatMap Due.enc)) := by
  have hrd : Reads W (refRow q A c l F B) A l.length 3 (l.flatMap Due.enc) := hr.rd.mono fun x hx => List.mem_cons_of_mem _ (List.mem_append_right _ hx)
  have hnc := hr.nc
  have hcc := hr.cc
  refine FSpec.dropF ?_
  refine spec_body Try.func28 rfl rfl Try.results28 Try.ntmps28 rfl rfl ?_
  refine aw_reads hrd (by rfl) (fun hA => ?_)
  repeat' (first
    | apply aw_seq | apply aw_region | apply aw_ret | apply aw_skip | apply aw_exit | apply aw_block | apply es_nil
    | (apply es_pure hT; (iterate 4 exact rfl)) | (apply es_skip; (iterate 3 exact rfl)) | (apply es_skip0; (iterate 2 exact rfl))
    | (apply es_i64 hT; (iterate 4 exact rfl); (iterate 2 omega))
    | (apply aw_draw [] [] hmix; decide +kernel)
    | (apply es_load; (iterate 5 exact rfl); first | exact ld_blk hT rfl rfl mem0 rfl rfl | exact ld_all hT rfl rfl mem0 rfl)
    | (apply es_load; (iterate 5 exact rfl); first | exact ld_blk hT rfl rfl mem1 rfl rfl | exact ld_all hT rfl rfl mem1 rfl)
    | (apply es_load; (iterate 5 exact rfl); first | exact ld_blk hT rfl rfl mem2 rfl rfl | exact ld_all hT rfl rfl mem2 rfl)
    | (apply es_box; (iterate 5 exact rfl); intro _) | (apply es_alloc hT; (iterate 5 exact rfl); intro _)
    | (apply aw_condT; (iterate 2 exact rfl)) | (apply aw_condF; (iterate 2 exact rfl))
    | (apply es_case; exact rfl; all_goals intro hb; all_goals (try simp only [hb]); all_goals (first | replace hb := of_decide_eq_true hb | replace hb := of_decide_eq_false hb | replace hb := bne_t hb | replace hb := bne_f hb | skip); all_goals (try (exfalso; omega)))
    | (apply aw_cond; exact rfl; all_goals intro hb; all_goals (try simp only [hb]); all_goals (first | replace hb := of_decide_eq_true hb | replace hb := of_decide_eq_false hb | replace hb := bne_t hb | replace hb := bne_f hb | skip); all_goals (try (exfalso; omega))))
  refine aw_loop (α := Nat) (E := fun k => [(0, .pointer (some ⟨q, 0, none⟩)), (1, .int .i64 tick), (5, .int .i64 k)]) (H := fun _ => refRow q A c l F B) (μ := fun k => l.length - k)
    (S := fun k => k ≤ l.length ∧ ∀ (j : Nat) y, j < k → l[j]? = some y → y.tick ≤ tick) 0 (J := []) ⟨Nat.zero_le _, fun j y hj => by omega⟩ ⟨rfl, rfl, rfl, trivial⟩ (List.Perm.refl _) ?_
  rintro k ⟨hk1, hk2⟩
  have fin : takeN l tick = k → ∀ A1 c1, DropTo (.blk q 47 [.slice (cutA A c k 3) (l.length - k) (c - k)] :: .own A1 (0 + k) c1 39 3 ([] ++ (l.flatMap Due.enc).take (k * 3)) :: (F ++ B))
      (refRow q (cutA A c k 3) (c - k) (l.drop (takeN l tick)) F (.own A1 (0 + k) c1 39 3 ((l.take (takeN l tick)).flatMap Due.enc) :: B))   := fun hkk A1 c1 => by
    show DropTo _ (.blk q 47 [.slice (cutA A c k 3) (l.drop (takeN l tick)).length (c - k)] :: (F ++ .own A1 (0 + k) c1 39 3 ((l.take (takeN l tick)).flatMap Due.enc) :: B))
    rw [hkk, List.length_drop, List.nil_append, flat_take Due.enc_len]
    apply dt_cons; (first | exact sel0 | exact sel1 | exact selS sel1 | exact selS (selS sel1) | exact selS (selS (selS sel1)) | exact selS (selS (selS (selS sel1))) | exact selS (selS (selS (selS (selS sel1)))) | exact selS (selS (selS (selS (selS (selS sel1))))))
    apply dt_mid
    exact dt_end
  have R1 := hrd.take hk1
  have R2 := hr.rd.cut hnc hk1 (Nat.le_refl _)
  have e2 : ((l.flatMap Due.enc).drop (k * 3)).take ((l.length - k) * 3) = (l.drop k).flatMap Due.enc := by
    have e : (l.drop k).take (l.length - k) = l.drop k := List.take_of_length_le (by simp)
    rw [flat_drop Due.enc_len, flat_take Due.enc_len, e]
  rw [e2] at R2
  have hR2 : takeN l tick = k → ∀ A1 c1, RefD W (.own A1 (0 + k) c1 39 3 ((l.take (takeN l tick)).flatMap Due.enc) :: B) (cutA A c k 3) (c - k) (l.drop (takeN l tick)) := fun hkk A1 c1 => by
    rw [hkk]
    refine ⟨?_, by rw [List.length_drop]; omega, by omega⟩
    rw [List.length_drop]
    exact R2.cons
  by_cases hlt : k < l.length
  · obtain ⟨x, hx⟩ : ∃ x, l[k]? = some x := ⟨l[k]'(by omega), List.getElem?_eq_getElem (by omega)⟩
    have hx2 : l[(k : Int).toNat]? = some x := by simpa using hx
    have hA := hA (by omega)
    have hd : decide ((k : Int) < (l.length : Int)) = true := by simp; omega
    by_cases hx0 : x.tick ≤ tick
    · have hd2 : decide (x.tick ≤ tick) = true := by simpa using hx0
      repeat' (first
        | apply aw_seq | apply aw_region | apply aw_ret | apply aw_skip | apply aw_exit | apply aw_block | apply es_nil
        | (apply es_pure hT; (iterate 4 exact rfl)) | (apply es_skip; (iterate 3 exact rfl)) | (apply es_skip0; (iterate 2 exact rfl))
        | (apply es_i64 hT; (iterate 4 exact rfl); (iterate 2 omega))
        | (apply aw_draw [] [] hmix; decide +kernel)
        | (apply es_idx hT; (iterate 8 exact rfl); (iterate 2 omega); exact hA)
        | (apply es_load; (iterate 5 exact rfl); exact ld_fld hT rfl rfl hrd Due.enc_len (adr_add _ _ _) hx2 (by decide) rfl)
        | (apply es_load; (iterate 5 exact rfl); first | exact ld_blk hT rfl rfl mem0 rfl rfl | exact ld_all hT rfl rfl mem0 rfl)
        | (apply es_load; (iterate 5 exact rfl); first | exact ld_blk hT rfl rfl mem1 rfl rfl | exact ld_all hT rfl rfl mem1 rfl)
        | (apply es_load; (iterate 5 exact rfl); first | exact ld_blk hT rfl rfl mem2 rfl rfl | exact ld_all hT rfl rfl mem2 rfl)
        | (apply es_load; (iterate 5 exact rfl); first | exact ld_blk hT rfl rfl mem0 rfl rfl | exact ld_all hT rfl rfl mem0 rfl)
        | (apply es_load; (iterate 5 exact rfl); first | exact ld_blk hT rfl rfl (List.mem_cons_of_mem _ mem0) rfl rfl | exact ld_all hT rfl rfl (List.mem_cons_of_mem _ mem0) rfl)
        | (apply es_box; (iterate 5 exact rfl); intro _) | (apply es_alloc hT; (iterate 5 exact rfl); intro _)
        | (apply aw_condT; (iterate 2 exact rfl)) | (apply aw_condF; (iterate 2 exact rfl))
        | (apply es_case; exact rfl; all_goals intro hb; all_goals (try simp only [hb]); all_goals (first | replace hb := of_decide_eq_true hb | replace hb := of_decide_eq_false hb | replace hb := bne_t hb | replace hb := bne_f hb | skip); all_goals (try (exfalso; omega)))
        | (apply aw_cond; exact rfl; all_goals intro hb; all_goals (try simp only [hb]); all_goals (first | replace hb := of_decide_eq_true hb | replace hb := of_decide_eq_false hb | replace hb := bne_t hb | replace hb := bne_f hb | skip); all_goals (try (exfalso; omega))))
      exact ⟨k + 1, [], by dsimp only; omega, ⟨by omega, fun j y hj hy => by
        by_cases hjk : j = k
        · subst hjk; rw [hx] at hy; cases hy; exact hx0
        · exact hk2 j y (by omega) hy⟩, ⟨rfl, rfl, rfl, trivial⟩, List.Perm.refl _⟩
    · have hd2 : decide (x.tick ≤ tick) = false := by simpa using hx0
      have hkk : takeN l tick = k := takeN_eq hk1 hk2 (fun y hy => by rw [hx] at hy; cases hy; exact hx0)
      have hval : ∀ A1 c1, Value.slice A1 (0 + ((k : Int).toNat)) c1 = .slice A1 (takeN l tick) c1 := fun A1 c1 => by rw [hkk]; simp
      repeat' (first
        | apply aw_seq | apply aw_region | apply aw_ret | apply aw_skip | apply aw_exit | apply aw_block | apply es_nil
        | (apply es_pure hT; (iterate 4 exact rfl)) | (apply es_skip; (iterate 3 exact rfl)) | (apply es_skip0; (iterate 2 exact rfl))
        | (apply es_i64 hT; (iterate 4 exact rfl); (iterate 2 omega))
        | (apply aw_draw [] [] hmix; decide +kernel)
        | (apply es_idx hT; (iterate 8 exact rfl); (iterate 2 omega); exact hA)
        | (apply es_load; (iterate 5 exact rfl); exact ld_fld hT rfl rfl hrd Due.enc_len (adr_add _ _ _) hx2 (by decide) rfl)
        | (apply es_sliceTo hT; (iterate 8 exact rfl); (iterate 2 omega))
        | (apply es_sliceFrom hT; (iterate 8 exact rfl); (iterate 3 omega); exact rfl)
        | (apply es_buildSlice hT; (iterate 12 exact rfl); intro g)
        | (apply es_append hT; (iterate 10 exact rfl); (first | exact sel0 | exact sel1 | exact selS sel1 | exact selS (selS sel1) | exact selS (selS (selS sel1)) | exact selS (selS (selS (selS sel1))) | exact selS (selS (selS (selS (selS sel1)))) | exact selS (selS (selS (selS (selS (selS sel1)))))); exact R1.cons; omega; (show (_ : Nat) * 24 ≤ _; omega); intro A1 c1)
        | (apply es_store hT; (iterate 6 exact rfl); (first | exact sel0 | exact sel1 | exact selS sel1 | exact selS (selS sel1) | exact selS (selS (selS sel1)) | exact selS (selS (selS (selS sel1))) | exact selS (selS (selS (selS (selS sel1)))) | exact selS (selS (selS (selS (selS (selS sel1)))))); (iterate 3 exact rfl); exact Nat.le_of_ble_eq_true rfl)
        | (apply es_load; (iterate 5 exact rfl); first | exact ld_blk hT rfl rfl mem0 rfl rfl | exact ld_all hT rfl rfl mem0 rfl)
        | (apply es_load; (iterate 5 exact rfl); first | exact ld_blk hT rfl rfl mem1 rfl rfl | exact ld_all hT rfl rfl mem1 rfl)
        | (apply es_load; (iterate 5 exact rfl); first | exact ld_blk hT rfl rfl mem2 rfl rfl | exact ld_all hT rfl rfl mem2 rfl)
        | (apply es_load; (iterate 5 exact rfl); first | exact ld_blk hT rfl rfl mem0 rfl rfl | exact ld_all hT rfl rfl mem0 rfl)
        | (apply es_load; (iterate 5 exact rfl); first | exact ld_blk hT rfl rfl (List.mem_cons_of_mem _ mem0) rfl rfl | exact ld_all hT rfl rfl (List.mem_cons_of_mem _ mem0) rfl)
        | (apply es_load; (iterate 5 exact rfl); first | exact ld_blk hT rfl rfl (List.mem_cons_of_mem _ (List.mem_cons_of_mem _ mem0)) rfl rfl | exact ld_all hT rfl rfl (List.mem_cons_of_mem _ (List.mem_cons_of_mem _ mem0)) rfl)
        | (apply es_load; (iterate 5 exact rfl); first | exact ld_blk hT rfl rfl (List.mem_cons_of_mem _ (List.mem_cons_of_mem _ (List.mem_cons_of_mem _ mem0))) rfl rfl | exact ld_all hT rfl rfl (List.mem_cons_of_mem _ (List.mem_cons_of_mem _ (List.mem_cons_of_mem _ mem0))) rfl)
        | (apply es_box; (iterate 5 exact rfl); intro _) | (apply es_alloc hT; (iterate 5 exact rfl); intro _)
        | (apply aw_condT; (iterate 2 exact rfl)) | (apply aw_condF; (iterate 2 exact rfl))
        | (apply es_case; exact rfl; all_goals intro hb; all_goals (try simp only [hb]); all_goals (first | replace hb := of_decide_eq_true hb | replace hb := of_decide_eq_false hb | replace hb := bne_t hb | replace hb := bne_f hb | skip); all_goals (try (exfalso; omega)))
        | (apply aw_cond; exact rfl; all_goals intro hb; all_goals (try simp only [hb]); all_goals (first | replace hb := of_decide_eq_true hb | replace hb := of_decide_eq_false hb | replace hb := bne_t hb | replace hb := bne_f hb | skip); all_goals (try (exfalso; omega))))
      apply ret1; exact rfl
      refine ⟨_, fin hkk A1 c1, fun w hw => ⟨A1, c1, _, _, _, hval A1 c1, rfl, hR2 hkk A1 c1, ?_⟩⟩
      have ho := hw.ownF (List.mem_cons_of_mem _ (List.mem_append_right _ mem0))
      have := ho.reads (W := W) (h := .own A1 (0 + k) c1 39 3 ((l.take (takeN l tick)).flatMap Due.enc) :: B) mem0
      rw [Nat.zero_add] at this ⊢
      rw [hkk] at this ⊢
      exact this
  · have hd : decide ((k : Int) < (l.length : Int)) = false := by simp; omega
    have hkk : takeN l tick = k := takeN_eq hk1 hk2 (fun y hy => by rw [List.getElem?_eq_none (by omega)] at hy; cases hy)
    have hx2 : l.length = l.length := rfl
    have hval : ∀ A1 c1, Value.slice A1 (0 + ((k : Int).toNat)) c1 = .slice A1 (takeN l tick) c1 := fun A1 c1 => by rw [hkk]; simp
    repeat' (first
      | apply aw_seq | apply aw_region | apply aw_ret | apply aw_skip | apply aw_exit | apply aw_block | apply es_nil
      | (apply es_pure hT; (iterate 4 exact rfl)) | (apply es_skip; (iterate 3 exact rfl)) | (apply es_skip0; (iterate 2 exact rfl))
      | (apply es_i64 hT; (iterate 4 exact rfl); (iterate 2 omega))
      | (apply aw_draw [] [] hmix; decide +kernel)
      | (apply es_idx hT; (iterate 8 exact rfl); (iterate 2 omega); exact hA)
      | (apply es_load; (iterate 5 exact rfl); exact ld_fld hT rfl rfl hrd Due.enc_len (adr_add _ _ _) hx2 (by decide) rfl)
      | (apply es_sliceTo hT; (iterate 8 exact rfl); (iterate 2 omega))
      | (apply es_sliceFrom hT; (iterate 8 exact rfl); (iterate 3 omega); exact rfl)
      | (apply es_buildSlice hT; (iterate 12 exact rfl); intro g)
      | (apply es_append hT; (iterate 10 exact rfl); (first | exact sel0 | exact sel1 | exact selS sel1 | exact selS (selS sel1) | exact selS (selS (selS sel1)) | exact selS (selS (selS (selS sel1))) | exact selS (selS (selS (selS (selS sel1)))) | exact selS (selS (selS (selS (selS (selS sel1)))))); exact R1.cons; omega; (show (_ : Nat) * 24 ≤ _; omega); intro A1 c1)
      | (apply es_store hT; (iterate 6 exact rfl); (first | exact sel0 | exact sel1 | exact selS sel1 | exact selS (selS sel1) | exact selS (selS (selS sel1)) | exact selS (selS (selS (selS sel1))) | exact selS (selS (selS (selS (selS sel1)))) | exact selS (selS (selS (selS (selS (selS sel1)))))); (iterate 3 exact rfl); exact Nat.le_of_ble_eq_true rfl)
      | (apply es_load; (iterate 5 exact rfl); first | exact ld_blk hT rfl rfl mem0 rfl rfl | exact ld_all hT rfl rfl mem0 rfl)
      | (apply es_load; (iterate 5 exact rfl); first | exact ld_blk hT rfl rfl mem1 rfl rfl | exact ld_all hT rfl rfl mem1 rfl)
      | (apply es_load; (iterate 5 exact rfl); first | exact ld_blk hT rfl rfl mem2 rfl rfl | exact ld_all hT rfl rfl mem2 rfl)
      | (apply es_load; (iterate 5 exact rfl); first | exact ld_blk hT rfl rfl mem0 rfl rfl | exact ld_all hT rfl rfl mem0 rfl)
      | (apply es_load; (iterate 5 exact rfl); first | exact ld_blk hT rfl rfl (List.mem_cons_of_mem _ mem0) rfl rfl | exact ld_all hT rfl rfl (List.mem_cons_of_mem _ mem0) rfl)
      | (apply es_load; (iterate 5 exact rfl); first | exact ld_blk hT rfl rfl (List.mem_cons_of_mem _ (List.mem_cons_of_mem _ mem0)) rfl rfl | exact ld_all hT rfl rfl (List.mem_cons_of_mem _ (List.mem_cons_of_mem _ mem0)) rfl)
      | (apply es_load; (iterate 5 exact rfl); first | exact ld_blk hT rfl rfl (List.mem_cons_of_mem _ (List.mem_cons_of_mem _ (List.mem_cons_of_mem _ mem0))) rfl rfl | exact ld_all hT rfl rfl (List.mem_cons_of_mem _ (List.mem_cons_of_mem _ (List.mem_cons_of_mem _ mem0))) rfl)
      | (apply es_box; (iterate 5 exact rfl); intro _) | (apply es_alloc hT; (iterate 5 exact rfl); intro _)
      | (apply aw_condT; (iterate 2 exact rfl)) | (apply aw_condF; (iterate 2 exact rfl))
      | (apply es_case; exact rfl; all_goals intro hb; all_goals (try simp only [hb]); all_goals (first | replace hb := of_decide_eq_true hb | replace hb := of_decide_eq_false hb | replace hb := bne_t hb | replace hb := bne_f hb | skip); all_goals (try (exfalso; omega)))
      | (apply aw_cond; exact rfl; all_goals intro hb; all_goals (try simp only [hb]); all_goals (first | replace hb := of_decide_eq_true hb | replace hb := of_decide_eq_false hb | replace hb := bne_t hb | replace hb := bne_f hb | skip); all_goals (try (exfalso; omega))))
    apply ret1; exact rfl
    refine ⟨_, fin hkk A1 c1, fun w hw => ⟨A1, c1, _, _, _, hval A1 c1, rfl, hR2 hkk A1 c1, ?_⟩⟩
    have ho := hw.ownF (List.mem_cons_of_mem _ (List.mem_append_right _ mem0))
    have := ho.reads (W := W) (h := .own A1 (0 + k) c1 39 3 ((l.take (takeN l tick)).flatMap Due.enc) :: B) mem0
    rw [Nat.zero_add] at this ⊢
    rw [hkk] at this ⊢
    exact this
end Go.Proofs.Ytmoglacdddinjaa
