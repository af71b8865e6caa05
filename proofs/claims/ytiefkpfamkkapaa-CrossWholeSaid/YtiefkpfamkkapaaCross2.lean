/- Contracts of package cross and of the document's answer (consolsref15), more: how much would trade; may an order come? Conditions stand in each statement. -/
import Derived.Test.YtiefkpfamkkapaaCross1
set_option linter.unusedSimpArgs false
set_option linter.unusedVariables false
namespace Go.Proofs.Ytiefkpfamkkapaa
open Go Go.Sl
attribute [local irreducible] AW ES EP Ld RetQ
set_option maxRecDepth 100000

theorem sumF_step {p : Order → Bool} {l : List Order} {k : Nat} {x : Order} (hx : l[k]? = some x) : sumL ((l.take (k + 1)).filter p) = sumL ((l.take k).filter p) + if p x then x.left else 0 := by
  rw [List.take_add_one, hx, List.filter_append, sumL_append]
  cases h : p x <;> simp [h, sumL]
theorem sumF_bd {p : Order → Bool} {l : List Order} (h : ∀ o ∈ l, 1 ≤ o.left ∧ o.left ≤ 1000000) (hl : l.length ≤ 64) (k : Nat) : 0 ≤ sumL ((l.take k).filter p) ∧ sumL ((l.take k).filter p) ≤ 64000000 := by
  have h1 := sumL_bd (l := (l.take k).filter p) (fun o ho => h o (List.mem_of_mem_take (List.mem_filter.1 ho).1))
  have h2 := List.length_filter_le p (l.take k)
  have h3 : (l.take k).length ≤ 64 := by simp; omega
  omega
theorem meets_mem {how : Int} {o : Order} {l : List Order} {x : Order} (h : x ∈ meetsO how o l) : x ∈ l ∧ x.side = otherB o.side := sideO_side ((List.takeWhile_prefix _).subset h)
theorem meets_len (how : Int) (o : Order) (l : List Order) : (meetsO how o l).length ≤ l.length := Nat.le_trans (List.takeWhile_prefix _).length_le (sideO_len _ _)

set_option maxHeartbeats 1000000 in
theorem cross_Would (W : World) (p : Nat) (A : Option Addr) (c : Nat) (l : List Order) (o : Order) (how : Int) (hB : BookB l) :
    QSpec Try.prog W 64 [.pointer (some ⟨p, 0, none⟩), .agg o.enc.toArray, .int .i64 how] (bookTab p A c l []) (.int .i64 (wouldV how o l)) := by
  refine QSpec.ofD (fun h' hs => ?_)
  have m1 := hs _ mem0
  have m2 := hs _ mem1
  have hI := side_Is W o.side
  refine spec_body Try.func64 rfl rfl Try.results64 Try.ntmps64 rfl rfl ?_
  cases hb : isB o.side
  · rw [hb] at hI
    repeat' (first
      | apply aw_seq | apply aw_region | apply aw_ret | apply aw_skip | apply aw_exit | apply aw_block | apply es_nil
      | (apply es_pure hT; (iterate 4 exact rfl)) | (apply es_skip; (iterate 3 exact rfl)) | (apply es_skip0; (iterate 2 exact rfl))
      | (apply es_i64 hT; (iterate 4 exact rfl); (iterate 2 omega))
      | (apply aw_draw [] [] hmix; decide +kernel)
      | (apply es_callQ (hs := (hI.mono (by simp))); (iterate 7 exact rfl))
      | (apply es_load; (iterate 5 exact rfl); first | (apply ld_blk hT; exact rfl; exact rfl; (repeat (first | exact List.mem_cons_self | apply List.mem_cons_of_mem)); exact rfl; exact rfl) | (apply ld_all hT; exact rfl; exact rfl; (repeat (first | exact List.mem_cons_self | apply List.mem_cons_of_mem)); exact rfl))
      | (apply es_box; (iterate 5 exact rfl); intro _) | (apply es_alloc hT; (iterate 5 exact rfl); intro _)
      | (apply aw_condT; (iterate 2 exact rfl)) | (apply aw_condF; (iterate 2 exact rfl))
      | (apply es_case; exact rfl; all_goals intro hb; all_goals (try simp only [hb]); all_goals (first | replace hb := of_decide_eq_true hb | replace hb := of_decide_eq_false hb | replace hb := bne_t hb | replace hb := bne_f hb | skip); all_goals (try (exfalso; omega)))
      | (apply aw_cond; exact rfl; all_goals intro hb; all_goals (try simp only [hb]); all_goals (first | replace hb := of_decide_eq_true hb | replace hb := of_decide_eq_false hb | replace hb := bne_t hb | replace hb := bne_f hb | skip); all_goals (try (exfalso; omega))))
    apply ret1; exact rfl
    exact ⟨by simp [wouldV, hb], by (repeat (first | exact dt_end | apply dt_skip))⟩
  rw [hb] at hI
  have hv : wouldV how o l = max (min (sumL (othersOf o (meetsO how o l))) o.left) 0 := by simp [wouldV, hb]
  rw [hv]
  have hM := fun h m1 m2 => cross_meets W h p A c l o how hB m1 m2
  have hml := meets_len how o l
  have hbl := hB.len
  have hlf : ∀ x ∈ meetsO how o l, 1 ≤ x.left ∧ x.left ≤ 1000000 := fun x hx => hB.left x (meets_mem hx).1
  generalize meetsO how o l = ms at hM hml hlf ⊢
  unfold othersOf
  repeat' (first
    | apply aw_seq | apply aw_region | apply aw_ret | apply aw_skip | apply aw_exit | apply aw_block | apply es_nil
    | (apply es_pure hT; (iterate 4 exact rfl)) | (apply es_skip; (iterate 3 exact rfl)) | (apply es_skip0; (iterate 2 exact rfl))
    | (apply es_i64 hT; (iterate 4 exact rfl); (iterate 2 omega))
    | (apply aw_draw [] [] hmix; decide +kernel)
    | (apply es_box; (iterate 5 exact rfl); intro g4)
    | (apply es_callQ (hs := (hI.mono (by simp))); (iterate 7 exact rfl))
    | (apply es_call (hs := (hM _ (.tail _ m1) (.tail _ m2))); (iterate 7 exact rfl); rintro _ _ ⟨AM, cM, rfl, rfl, hfM⟩)
    | (apply es_load; (iterate 5 exact rfl); first | (apply ld_blk hT; exact rfl; exact rfl; (repeat (first | exact List.mem_cons_self | apply List.mem_cons_of_mem)); exact rfl; exact rfl) | (apply ld_all hT; exact rfl; exact rfl; (repeat (first | exact List.mem_cons_self | apply List.mem_cons_of_mem)); exact rfl))
    | (apply es_box; (iterate 5 exact rfl); intro _) | (apply es_alloc hT; (iterate 5 exact rfl); intro _)
    | (apply aw_condT; (iterate 2 exact rfl)) | (apply aw_condF; (iterate 2 exact rfl))
    | (apply es_case; exact rfl; all_goals intro hb; all_goals (try simp only [hb]); all_goals (first | replace hb := of_decide_eq_true hb | replace hb := of_decide_eq_false hb | replace hb := bne_t hb | replace hb := bne_f hb | skip); all_goals (try (exfalso; omega)))
    | (apply aw_cond; exact rfl; all_goals intro hb; all_goals (try simp only [hb]); all_goals (first | replace hb := of_decide_eq_true hb | replace hb := of_decide_eq_false hb | replace hb := bne_t hb | replace hb := bne_f hb | skip); all_goals (try (exfalso; omega))))
  all_goals try (exfalso; omega)
  refine aw_loopD (α := Nat) (E := fun k => [(4, .pointer (some ⟨g4, 0, none⟩)), (7, .int .i64 (sumL ((ms.take k).filter fun x => !(x.owner == o.owner)))), (17, .slice AM ms.length cM), (18, .int .i64 ms.length), (19, .int .i64 k)])
    (H := fun k => .own AM ms.length cM 29 6 (ms.flatMap Order.enc) :: .blk g4 29 o.enc :: h') (μ := fun k => ms.length - k)
    (S := fun k => k ≤ ms.length) 0 (Nat.zero_le _) ⟨rfl, rfl, rfl, rfl, rfl, trivial⟩ (by (repeat (first | exact dt_end | (apply dt_cons; · (repeat (first | exact sel0 | apply selS))) | apply dt_skip))) ?_
  intro k hk
  have hbd := sumF_bd (p := fun x => !(x.owner == o.owner)) hlf (by omega) k
  by_cases hlt : k < ms.length
  · obtain ⟨x, hx⟩ : ∃ x, ms[k]? = some x := ⟨ms[k]'(by omega), List.getElem?_eq_getElem (by omega)⟩
    have hx2 : ms[(k : Int).toNat]? = some x := by simpa using hx
    have hA := hfM.some_ (by omega)
    have hd1 : decide ((k : Int) < (ms.length : Int)) = true := by simp; omega
    have hst := sumF_step (p := fun x => !(x.owner == o.owner)) hx
    have hxl := hlf x (List.mem_of_getElem? hx)
    generalize sumL ((ms.take k).filter fun x => !(x.owner == o.owner)) = m at hbd hst ⊢
    by_cases how1 : x.owner = o.owner
    · rw [if_neg (by simp [how1]), Int.add_zero] at hst
      repeat' (first
        | apply aw_seq | apply aw_region | apply aw_ret | apply aw_skip | apply aw_exit | apply aw_block | apply es_nil
        | (apply es_pure hT; (iterate 4 exact rfl)) | (apply es_skip; (iterate 3 exact rfl)) | (apply es_skip0; (iterate 2 exact rfl))
        | (apply es_i64 hT; (iterate 4 exact rfl); (iterate 2 omega))
        | (apply aw_draw [] [] hmix; decide +kernel)
        | (apply es_idx hT; (iterate 8 exact rfl); (iterate 2 omega); exact hA)
        | (apply es_load; (iterate 5 exact rfl); exact ld_elem hT rfl rfl (hfM.reads mem0) Order.enc_len rfl hx2 rfl)
        | (apply es_alloc hT; (iterate 5 exact rfl); first | ((fail_if_success (have q := g9)); intro g9) | intro _)
        | (apply es_store hT; (iterate 6 exact rfl); (repeat (first | exact sel0 | apply selS)); (iterate 3 exact rfl); exact Nat.le_of_ble_eq_true rfl)
        | (apply es_load; (iterate 5 exact rfl); first | (apply ld_blk hT; exact rfl; exact rfl; (repeat (first | exact List.mem_cons_self | apply List.mem_cons_of_mem)); exact rfl; exact rfl) | (apply ld_all hT; exact rfl; exact rfl; (repeat (first | exact List.mem_cons_self | apply List.mem_cons_of_mem)); exact rfl))
        | (apply es_box; (iterate 5 exact rfl); intro _) | (apply es_alloc hT; (iterate 5 exact rfl); intro _)
        | (apply aw_condT; (iterate 2 exact rfl)) | (apply aw_condF; (iterate 2 exact rfl))
        | (apply es_case; exact rfl; all_goals intro hb; all_goals (try simp only [hb]); all_goals (first | replace hb := of_decide_eq_true hb | replace hb := of_decide_eq_false hb | replace hb := bne_t hb | replace hb := bne_f hb | skip); all_goals (try (exfalso; omega)))
        | (apply aw_cond; exact rfl; all_goals intro hb; all_goals (try simp only [hb]); all_goals (first | replace hb := of_decide_eq_true hb | replace hb := of_decide_eq_false hb | replace hb := bne_t hb | replace hb := bne_f hb | skip); all_goals (try (exfalso; omega))))
      all_goals first
        | (exfalso; omega)
        | exact loopq_end (k + 1) (by (try dsimp only); omega) (by (try dsimp only); omega) ⟨rfl, by (try dsimp only); rw [hst]; rfl, rfl, rfl, rfl, trivial⟩ (dt_skip dt_end)
        | (apply blockq_n; exact loopq_end (k + 1) (by (try dsimp only); omega) (by (try dsimp only); omega) ⟨rfl, by (try dsimp only); rw [hst]; rfl, rfl, rfl, rfl, trivial⟩ (dt_skip dt_end))
        | skip
    · rw [if_pos (by simp [how1])] at hst
      repeat' (first
        | apply aw_seq | apply aw_region | apply aw_ret | apply aw_skip | apply aw_exit | apply aw_block | apply es_nil
        | (apply es_pure hT; (iterate 4 exact rfl)) | (apply es_skip; (iterate 3 exact rfl)) | (apply es_skip0; (iterate 2 exact rfl))
        | (apply es_i64 hT; (iterate 4 exact rfl); (iterate 2 omega))
        | (apply aw_draw [] [] hmix; decide +kernel)
        | (apply es_idx hT; (iterate 8 exact rfl); (iterate 2 omega); exact hA)
        | (apply es_load; (iterate 5 exact rfl); exact ld_elem hT rfl rfl (hfM.reads mem0) Order.enc_len rfl hx2 rfl)
        | (apply es_alloc hT; (iterate 5 exact rfl); first | ((fail_if_success (have q := g9)); intro g9) | intro _)
        | (apply es_store hT; (iterate 6 exact rfl); (repeat (first | exact sel0 | apply selS)); (iterate 3 exact rfl); exact Nat.le_of_ble_eq_true rfl)
        | (apply es_load; (iterate 5 exact rfl); first | (apply ld_blk hT; exact rfl; exact rfl; (repeat (first | exact List.mem_cons_self | apply List.mem_cons_of_mem)); exact rfl; exact rfl) | (apply ld_all hT; exact rfl; exact rfl; (repeat (first | exact List.mem_cons_self | apply List.mem_cons_of_mem)); exact rfl))
        | (apply es_box; (iterate 5 exact rfl); intro _) | (apply es_alloc hT; (iterate 5 exact rfl); intro _)
        | (apply aw_condT; (iterate 2 exact rfl)) | (apply aw_condF; (iterate 2 exact rfl))
        | (apply es_case; exact rfl; all_goals intro hb; all_goals (try simp only [hb]); all_goals (first | replace hb := of_decide_eq_true hb | replace hb := of_decide_eq_false hb | replace hb := bne_t hb | replace hb := bne_f hb | skip); all_goals (try (exfalso; omega)))
        | (apply aw_cond; exact rfl; all_goals intro hb; all_goals (try simp only [hb]); all_goals (first | replace hb := of_decide_eq_true hb | replace hb := of_decide_eq_false hb | replace hb := bne_t hb | replace hb := bne_f hb | skip); all_goals (try (exfalso; omega))))
      all_goals first
        | (exfalso; omega)
        | exact loopq_end (k + 1) (by (try dsimp only); omega) (by (try dsimp only); omega) ⟨rfl, by (try dsimp only); rw [hst]; rfl, rfl, rfl, rfl, trivial⟩ (dt_skip dt_end)
        | (apply blockq_n; exact loopq_end (k + 1) (by (try dsimp only); omega) (by (try dsimp only); omega) ⟨rfl, by (try dsimp only); rw [hst]; rfl, rfl, rfl, rfl, trivial⟩ (dt_skip dt_end))
        | skip
  · obtain rfl : k = ms.length := by omega
    have hd1 : decide ((ms.length : Int) < (ms.length : Int)) = false := by simp
    rw [List.take_length]
    repeat' (first
      | apply aw_seq | apply aw_region | apply aw_ret | apply aw_skip | apply aw_exit | apply aw_block | apply es_nil
      | (apply es_pure hT; (iterate 4 exact rfl)) | (apply es_skip; (iterate 3 exact rfl)) | (apply es_skip0; (iterate 2 exact rfl))
      | (apply es_i64 hT; (iterate 4 exact rfl); (iterate 2 omega))
      | (apply aw_draw [] [] hmix; decide +kernel)
      | (apply es_min; (iterate 5 exact rfl))
      | (apply es_max; (iterate 5 exact rfl))
      | (apply es_load; (iterate 5 exact rfl); first | (apply ld_blk hT; exact rfl; exact rfl; (repeat (first | exact List.mem_cons_self | apply List.mem_cons_of_mem)); exact rfl; exact rfl) | (apply ld_all hT; exact rfl; exact rfl; (repeat (first | exact List.mem_cons_self | apply List.mem_cons_of_mem)); exact rfl))
      | (apply es_box; (iterate 5 exact rfl); intro _) | (apply es_alloc hT; (iterate 5 exact rfl); intro _)
      | (apply aw_condT; (iterate 2 exact rfl)) | (apply aw_condF; (iterate 2 exact rfl))
      | (apply es_case; exact rfl; all_goals intro hb; all_goals (try simp only [hb]); all_goals (first | replace hb := of_decide_eq_true hb | replace hb := of_decide_eq_false hb | replace hb := bne_t hb | replace hb := bne_f hb | skip); all_goals (try (exfalso; omega)))
      | (apply aw_cond; exact rfl; all_goals intro hb; all_goals (try simp only [hb]); all_goals (first | replace hb := of_decide_eq_true hb | replace hb := of_decide_eq_false hb | replace hb := bne_t hb | replace hb := bne_f hb | skip); all_goals (try (exfalso; omega))))
    all_goals first
      | (exfalso; omega)
      | (apply ret1; exact rfl; exact ⟨rfl, by (repeat (first | exact dt_end | (apply dt_cons; · (repeat (first | exact sel0 | apply selS))) | apply dt_skip))⟩)
      | skip

set_option maxHeartbeats 1000000 in
theorem ref15_Would (W : World) (p : Nat) (A : Option Addr) (c : Nat) (l : List Order) (o : Order) (how : Int) (hB : BookB l) (hsd : isB o.side = true) :
    QSpec Try.prog W 65 [.pointer (some ⟨p, 0, none⟩), .agg o.enc.toArray, .int .i64 how] (refB p A c l []) (.int .i64 (wouldV how o l)) := by
  refine QSpec.ofD (fun h' hs => ?_)
  have m1 := hs _ mem0
  have m2 := hs _ mem1
  have hbl := hB.len
  rw [would_is hsd hB]
  refine spec_body Try.func65 rfl rfl Try.results65 Try.ntmps65 rfl rfl ?_
  refine aw_fact m2 (fun hl hnc hcc hsome hnone hone => ?_)
  have hr := Reads.own (W := W) m2 hl hone
  repeat' (first
    | apply aw_seq | apply aw_region | apply aw_ret | apply aw_skip | apply aw_exit | apply aw_block | apply es_nil
    | (apply es_pure hT; (iterate 4 exact rfl)) | (apply es_skip; (iterate 3 exact rfl)) | (apply es_skip0; (iterate 2 exact rfl))
    | (apply es_i64 hT; (iterate 4 exact rfl); (iterate 2 omega))
    | (apply aw_draw [] [] hmix; decide +kernel)
    | (apply es_box; (iterate 5 exact rfl); intro g4)
    | (apply es_load; (iterate 5 exact rfl); first | (apply ld_blk hT; exact rfl; exact rfl; (repeat (first | exact List.mem_cons_self | apply List.mem_cons_of_mem)); exact rfl; exact rfl) | (apply ld_all hT; exact rfl; exact rfl; (repeat (first | exact List.mem_cons_self | apply List.mem_cons_of_mem)); exact rfl))
    | (apply es_box; (iterate 5 exact rfl); intro _) | (apply es_alloc hT; (iterate 5 exact rfl); intro _)
    | (apply aw_condT; (iterate 2 exact rfl)) | (apply aw_condF; (iterate 2 exact rfl))
    | (apply es_case; exact rfl; all_goals intro hb; all_goals (try simp only [hb]); all_goals (first | replace hb := of_decide_eq_true hb | replace hb := of_decide_eq_false hb | replace hb := bne_t hb | replace hb := bne_f hb | skip); all_goals (try (exfalso; omega)))
    | (apply aw_cond; exact rfl; all_goals intro hb; all_goals (try simp only [hb]); all_goals (first | replace hb := of_decide_eq_true hb | replace hb := of_decide_eq_false hb | replace hb := bne_t hb | replace hb := bne_f hb | skip); all_goals (try (exfalso; omega))))
  refine aw_loopD (α := Nat) (E := fun k => [(0, .pointer (some ⟨p, 0, none⟩)), (2, .int .i64 how), (4, .pointer (some ⟨g4, 0, none⟩)), (7, .int .i64 (sumL ((l.take k).filter (wouldB how o)))), (8, .int .i64 k)]) (H := fun _ => .blk g4 29 o.enc :: h') (μ := fun k => l.length - k)
    (S := fun k => k ≤ l.length) 0 (Nat.zero_le _) ⟨rfl, rfl, rfl, rfl, rfl, trivial⟩ (by (repeat (first | exact dt_end | (apply dt_cons; · (repeat (first | exact sel0 | apply selS))) | apply dt_skip))) ?_
  intro k hk
  have hbd := sumF_bd (p := wouldB how o) hB.left (by omega) k
  by_cases hlt : k < l.length
  · obtain ⟨x, hx⟩ : ∃ x, l[k]? = some x := ⟨l[k]'(by omega), List.getElem?_eq_getElem (by omega)⟩
    have hx2 : l[(k : Int).toNat]? = some x := by simpa using hx
    obtain ⟨g, hA⟩ := hsome (by omega)
    have hA2 : A.isSome = true := by rw [hA]; rfl
    have hd1 : decide ((k : Int) < (l.length : Int)) = true := by simp; omega
    have hst := sumF_step (p := wouldB how o) hx
    have hxl := hB.left x (List.mem_of_getElem? hx)
    have hmt := ref15_meets W o x how
    generalize sumL ((l.take k).filter (wouldB how o)) = m at hbd hst ⊢
    have hrq : Reads W (.blk g4 29 o.enc :: h') A l.length 6 (l.flatMap Order.enc) := hr.cons
    have hwb : wouldB how o x = (meetsB how o x && !(x.owner == o.owner)) := rfl
    cases hmb : meetsB how o x
    all_goals
      rw [hmb] at hmt hwb
      by_cases how1 : x.owner = o.owner
      all_goals
        cases hwx : wouldB how o x
        all_goals try (exfalso; rw [hwx] at hwb; simp [how1] at hwb; done)
        rw [hwx] at hst
        simp only [if_true, Bool.false_eq_true, if_false, Int.add_zero] at hst
        repeat' (first
          | apply aw_seq | apply aw_region | apply aw_ret | apply aw_skip | apply aw_exit | apply aw_block | apply es_nil
          | (apply es_pure hT; (iterate 4 exact rfl)) | (apply es_skip; (iterate 3 exact rfl)) | (apply es_skip0; (iterate 2 exact rfl))
          | (apply es_i64 hT; (iterate 4 exact rfl); (iterate 2 omega))
          | (apply aw_draw [92] [] hmix; decide +kernel)
          | (apply es_idx hT; (iterate 8 exact rfl); (iterate 2 omega); exact hA2)
          | (apply es_load; (iterate 5 exact rfl); first | exact ld_elem hT rfl rfl hrq Order.enc_len rfl hx2 rfl | exact ld_fld hT rfl rfl hrq Order.enc_len (adr_add _ _ _) hx2 (by decide) rfl)
          | (apply es_callQ (hs := (hmt.mono (by simp))); (iterate 7 exact rfl))
          | (apply es_load; (iterate 5 exact rfl); first | (apply ld_blk hT; exact rfl; exact rfl; (repeat (first | exact List.mem_cons_self | exact m1 | apply List.mem_cons_of_mem)); exact rfl; exact rfl) | (apply ld_all hT; exact rfl; exact rfl; (repeat (first | exact List.mem_cons_self | exact m1 | apply List.mem_cons_of_mem)); exact rfl))
          | (apply es_box; (iterate 5 exact rfl); intro _) | (apply es_alloc hT; (iterate 5 exact rfl); intro _)
          | (apply aw_condT; (iterate 2 exact rfl)) | (apply aw_condF; (iterate 2 exact rfl))
          | (apply es_case; exact rfl; all_goals intro hb; all_goals (try simp only [hb]); all_goals (first | replace hb := of_decide_eq_true hb | replace hb := of_decide_eq_false hb | replace hb := bne_t hb | replace hb := bne_f hb | skip); all_goals (try (exfalso; omega)))
          | (apply aw_cond; exact rfl; all_goals intro hb; all_goals (try simp only [hb]); all_goals (first | replace hb := of_decide_eq_true hb | replace hb := of_decide_eq_false hb | replace hb := bne_t hb | replace hb := bne_f hb | skip); all_goals (try (exfalso; omega))))
        all_goals first
          | (exfalso; omega)
          | exact loopq_end (k + 1) (by (try dsimp only); omega) (by (try dsimp only); omega) ⟨rfl, rfl, rfl, by (try dsimp only); rw [hst]; rfl, rfl, trivial⟩ dt_end
          | (apply blockq_n; exact loopq_end (k + 1) (by (try dsimp only); omega) (by (try dsimp only); omega) ⟨rfl, rfl, rfl, by (try dsimp only); rw [hst]; rfl, rfl, trivial⟩ dt_end)
          | skip
  · obtain rfl : k = l.length := by omega
    have hd1 : decide ((l.length : Int) < (l.length : Int)) = false := by simp
    rw [List.take_length]
    repeat' (first
      | apply aw_seq | apply aw_region | apply aw_ret | apply aw_skip | apply aw_exit | apply aw_block | apply es_nil
      | (apply es_pure hT; (iterate 4 exact rfl)) | (apply es_skip; (iterate 3 exact rfl)) | (apply es_skip0; (iterate 2 exact rfl))
      | (apply es_i64 hT; (iterate 4 exact rfl); (iterate 2 omega))
      | (apply aw_draw [] [] hmix; decide +kernel)
      | (apply es_min; (iterate 5 exact rfl))
      | (apply es_max; (iterate 5 exact rfl))
      | (apply es_load; (iterate 5 exact rfl); first | (apply ld_blk hT; exact rfl; exact rfl; (repeat (first | exact List.mem_cons_self | exact m1 | apply List.mem_cons_of_mem)); exact rfl; exact rfl) | (apply ld_all hT; exact rfl; exact rfl; (repeat (first | exact List.mem_cons_self | exact m1 | apply List.mem_cons_of_mem)); exact rfl))
      | (apply es_box; (iterate 5 exact rfl); intro _) | (apply es_alloc hT; (iterate 5 exact rfl); intro _)
      | (apply aw_condT; (iterate 2 exact rfl)) | (apply aw_condF; (iterate 2 exact rfl))
      | (apply es_case; exact rfl; all_goals intro hb; all_goals (try simp only [hb]); all_goals (first | replace hb := of_decide_eq_true hb | replace hb := of_decide_eq_false hb | replace hb := bne_t hb | replace hb := bne_f hb | skip); all_goals (try (exfalso; omega)))
      | (apply aw_cond; exact rfl; all_goals intro hb; all_goals (try simp only [hb]); all_goals (first | replace hb := of_decide_eq_true hb | replace hb := of_decide_eq_false hb | replace hb := bne_t hb | replace hb := bne_f hb | skip); all_goals (try (exfalso; omega))))
    all_goals first
      | (exfalso; omega)
      | (apply ret1; exact rfl; exact ⟨rfl, by (repeat (first | exact dt_end | (apply dt_cons; · (repeat (first | exact sel0 | apply selS))) | apply dt_skip))⟩)
      | skip
end Go.Proofs.Ytiefkpfamkkapaa
