/- Contracts of package gate, and of the document's answer (consolsref19): may a price be traded? Conditions stand in each statement. -/
import Derived.Test.YtiefkpfamkkapaaRef16
import Derived.Test.YtiefkpfamkkapaaBoth19
set_option linter.unusedSimpArgs false
set_option linter.unusedVariables false
namespace Go.Proofs.Ytiefkpfamkkapaa
open Go Go.Sl
attribute [local irreducible] AW ES EP Ld RetQ
set_option maxRecDepth 100000

def otherB (s : Int) : Int := if isB s then 3 - s else 0
theorem isB_two {s : Int} (h : isB s = true) : s = 1 ∨ s = 2 := by simpa [isB] using h
theorem side_Other (W : World) (s : Int) : QSpec Try.prog W 88 [.int .i64 s] [] (.int .i64 (otherB s)) := by
  refine QSpec.ofD (fun h' hs => ?_)
  have hI := side_Is W s
  cases hb : isB s
  · rw [hb] at hI
    refine spec_body Try.func88 rfl rfl Try.results88 Try.ntmps88 rfl rfl ?_
    repeat' (first
      | apply aw_seq | apply aw_region | apply aw_ret | apply aw_skip | apply aw_exit | apply aw_block | apply es_nil
      | (apply es_pure hT; (iterate 4 exact rfl)) | (apply es_skip; (iterate 3 exact rfl)) | (apply es_skip0; (iterate 2 exact rfl))
      | (apply es_i64 hT; (iterate 4 exact rfl); (iterate 2 omega))
      | (apply aw_draw [] [] hmix; decide +kernel)
      | (apply es_callQ (hs := (hI.mono (by simp))); (iterate 7 exact rfl))
      | (apply es_load; (iterate 5 exact rfl); first | (apply ld_blk hT; exact rfl; exact rfl; (repeat (first | exact List.mem_cons_self | apply List.mem_cons_of_mem)); exact rfl; exact rfl) | (apply ld_all hT; exact rfl; exact rfl; (repeat (first | exact List.mem_cons_self | apply List.mem_cons_of_mem)); exact rfl))
      | (apply es_box; (iterate 5 exact rfl); intro _) | (apply es_alloc hT; (iterate 5 exact rfl); intro _)
      | (apply aw_condT; (iterate 2 exact rfl)) | (apply aw_condF; (iterate 2 exact rfl))
      | (apply es_case; exact rfl; all_goals intro hb; all_goals (try simp only [hb]); all_goals (first | replace hb := of_decide_eq_true hb | replace hb := of_decide_eq_false hb | replace hb := bne_t hb | replace hb := bne_f hb | skip); all_goals (try (exfalso; omega)))
      | (apply aw_cond; exact rfl; all_goals intro hb; all_goals (try simp only [hb]); all_goals (first | replace hb := of_decide_eq_true hb | replace hb := of_decide_eq_false hb | replace hb := bne_t hb | replace hb := bne_f hb | skip); all_goals (try (exfalso; omega))))
    apply ret1; exact rfl
    exact ⟨by simp [otherB, hb], by (repeat (first | exact dt_end | apply dt_skip))⟩
  · rw [hb] at hI
    have h2 := isB_two hb
    refine spec_body Try.func88 rfl rfl Try.results88 Try.ntmps88 rfl rfl ?_
    repeat' (first
      | apply aw_seq | apply aw_region | apply aw_ret | apply aw_skip | apply aw_exit | apply aw_block | apply es_nil
      | (apply es_pure hT; (iterate 4 exact rfl)) | (apply es_skip; (iterate 3 exact rfl)) | (apply es_skip0; (iterate 2 exact rfl))
      | (apply es_i64 hT; (iterate 4 exact rfl); (iterate 2 omega))
      | (apply aw_draw [] [] hmix; decide +kernel)
      | (apply es_callQ (hs := (hI.mono (by simp))); (iterate 7 exact rfl))
      | (apply es_load; (iterate 5 exact rfl); first | (apply ld_blk hT; exact rfl; exact rfl; (repeat (first | exact List.mem_cons_self | apply List.mem_cons_of_mem)); exact rfl; exact rfl) | (apply ld_all hT; exact rfl; exact rfl; (repeat (first | exact List.mem_cons_self | apply List.mem_cons_of_mem)); exact rfl))
      | (apply es_box; (iterate 5 exact rfl); intro _) | (apply es_alloc hT; (iterate 5 exact rfl); intro _)
      | (apply aw_condT; (iterate 2 exact rfl)) | (apply aw_condF; (iterate 2 exact rfl))
      | (apply es_case; exact rfl; all_goals intro hb; all_goals (try simp only [hb]); all_goals (first | replace hb := of_decide_eq_true hb | replace hb := of_decide_eq_false hb | replace hb := bne_t hb | replace hb := bne_f hb | skip); all_goals (try (exfalso; omega)))
      | (apply aw_cond; exact rfl; all_goals intro hb; all_goals (try simp only [hb]); all_goals (first | replace hb := of_decide_eq_true hb | replace hb := of_decide_eq_false hb | replace hb := bne_t hb | replace hb := bne_f hb | skip); all_goals (try (exfalso; omega))))
    apply ret1; exact rfl
    exact ⟨by simp [otherB, hb], by (repeat (first | exact dt_end | apply dt_skip))⟩
theorem ref2_Other (W : World) (s : Int) : QSpec Try.prog W 61 [.int .i64 s] [] (.int .i64 (otherB s)) := by
  refine QSpec.ofD (fun h' hs => ?_)
  have hI := ref2_Is W s
  cases hb : isB s
  · rw [hb] at hI
    refine spec_body Try.func61 rfl rfl Try.results61 Try.ntmps61 rfl rfl ?_
    repeat' (first
      | apply aw_seq | apply aw_region | apply aw_ret | apply aw_skip | apply aw_exit | apply aw_block | apply es_nil
      | (apply es_pure hT; (iterate 4 exact rfl)) | (apply es_skip; (iterate 3 exact rfl)) | (apply es_skip0; (iterate 2 exact rfl))
      | (apply es_i64 hT; (iterate 4 exact rfl); (iterate 2 omega))
      | (apply aw_draw [] [] hmix; decide +kernel)
      | (apply es_callQ (hs := (hI.mono (by simp))); (iterate 7 exact rfl))
      | (apply es_load; (iterate 5 exact rfl); first | (apply ld_blk hT; exact rfl; exact rfl; (repeat (first | exact List.mem_cons_self | apply List.mem_cons_of_mem)); exact rfl; exact rfl) | (apply ld_all hT; exact rfl; exact rfl; (repeat (first | exact List.mem_cons_self | apply List.mem_cons_of_mem)); exact rfl))
      | (apply es_box; (iterate 5 exact rfl); intro _) | (apply es_alloc hT; (iterate 5 exact rfl); intro _)
      | (apply aw_condT; (iterate 2 exact rfl)) | (apply aw_condF; (iterate 2 exact rfl))
      | (apply es_case; exact rfl; all_goals intro hb; all_goals (try simp only [hb]); all_goals (first | replace hb := of_decide_eq_true hb | replace hb := of_decide_eq_false hb | replace hb := bne_t hb | replace hb := bne_f hb | skip); all_goals (try (exfalso; omega)))
      | (apply aw_cond; exact rfl; all_goals intro hb; all_goals (try simp only [hb]); all_goals (first | replace hb := of_decide_eq_true hb | replace hb := of_decide_eq_false hb | replace hb := bne_t hb | replace hb := bne_f hb | skip); all_goals (try (exfalso; omega))))
    apply ret1; exact rfl
    exact ⟨by simp [otherB, hb], by (repeat (first | exact dt_end | apply dt_skip))⟩
  · rw [hb] at hI
    have h2 := isB_two hb
    refine spec_body Try.func61 rfl rfl Try.results61 Try.ntmps61 rfl rfl ?_
    repeat' (first
      | apply aw_seq | apply aw_region | apply aw_ret | apply aw_skip | apply aw_exit | apply aw_block | apply es_nil
      | (apply es_pure hT; (iterate 4 exact rfl)) | (apply es_skip; (iterate 3 exact rfl)) | (apply es_skip0; (iterate 2 exact rfl))
      | (apply es_i64 hT; (iterate 4 exact rfl); (iterate 2 omega))
      | (apply aw_draw [] [] hmix; decide +kernel)
      | (apply es_callQ (hs := (hI.mono (by simp))); (iterate 7 exact rfl))
      | (apply es_load; (iterate 5 exact rfl); first | (apply ld_blk hT; exact rfl; exact rfl; (repeat (first | exact List.mem_cons_self | apply List.mem_cons_of_mem)); exact rfl; exact rfl) | (apply ld_all hT; exact rfl; exact rfl; (repeat (first | exact List.mem_cons_self | apply List.mem_cons_of_mem)); exact rfl))
      | (apply es_box; (iterate 5 exact rfl); intro _) | (apply es_alloc hT; (iterate 5 exact rfl); intro _)
      | (apply aw_condT; (iterate 2 exact rfl)) | (apply aw_condF; (iterate 2 exact rfl))
      | (apply es_case; exact rfl; all_goals intro hb; all_goals (try simp only [hb]); all_goals (first | replace hb := of_decide_eq_true hb | replace hb := of_decide_eq_false hb | replace hb := bne_t hb | replace hb := bne_f hb | skip); all_goals (try (exfalso; omega)))
      | (apply aw_cond; exact rfl; all_goals intro hb; all_goals (try simp only [hb]); all_goals (first | replace hb := of_decide_eq_true hb | replace hb := of_decide_eq_false hb | replace hb := bne_t hb | replace hb := bne_f hb | skip); all_goals (try (exfalso; omega))))
    apply ret1; exact rfl
    exact ⟨by simp [otherB, hb], by (repeat (first | exact dt_end | apply dt_skip))⟩

/-- what is wrong with a trade at a price -/
def checkV (s price qty : Int) (l : List Order) : Int := if isB s = false ∨ price < 1 ∨ qty < 1 then 1 else
  match sweepS (otherB s) l qty with
  | none => 0
  | some m => if (s = 1 ∧ m < (price * qty).toNat) ∨ (s = 2 ∧ (price * qty).toNat < m) then 13 else 0
theorem cmp3 (m n : Nat) : (m < n ∧ cmpW m n = -1) ∨ (m = n ∧ cmpW m n = 0) ∨ (n < m ∧ cmpW m n = 1) := by
  unfold cmpW
  rcases Nat.lt_trichotomy m n with h | h | h
  · exact .inl ⟨h, if_pos h⟩
  · exact .inr (.inl ⟨h, by rw [if_neg (by omega), if_neg (by omega)]⟩)
  · exact .inr (.inr ⟨h, by rw [if_neg (by omega), if_pos h]⟩)

set_option maxHeartbeats 1000000 in
theorem gate_Check (W : World) (p : Nat) (A : Option Addr) (c : Nat) (l : List Order) (s price qty : Int) (hB : BookB l) (hp : price ≤ 9223372036854775807) (hq : qty ≤ 9223372036854775807) :
    QSpec Try.prog W 54 [.pointer (some ⟨p, 0, none⟩), .int .i64 s, .int .i64 price, .int .i64 qty] (bookTab p A c l []) (.int .i64 (checkV s price qty l)) := by
  refine QSpec.ofD (fun h' hs => ?_)
  have m1 := hs _ mem0
  have m2 := hs _ mem1
  have hI := side_Is W s
  have hO := side_Other W s
  refine spec_body Try.func54 rfl rfl Try.results54 Try.ntmps54 rfl rfl ?_
  cases hb : isB s
  · rw [hb] at hI
    repeat' (first
      | apply aw_seq | apply aw_region | apply aw_ret | apply aw_skip | apply aw_exit | apply aw_block | apply es_nil
      | (apply es_pure hT; (iterate 4 exact rfl)) | (apply es_skip; (iterate 3 exact rfl)) | (apply es_skip0; (iterate 2 exact rfl))
      | (apply es_i64 hT; (iterate 4 exact rfl); (iterate 2 omega))
      | (apply aw_draw [] [] hmix; decide +kernel)
      | (apply es_callQ (hs := (hI.mono (by simp))); (iterate 7 exact rfl))
      | (apply es_load; (iterate 5 exact rfl); first | (apply ld_blk hT; exact rfl; exact rfl; (repeat (first | exact List.mem_cons_self | apply List.mem_cons_of_mem)); exact rfl; exact rfl) | (apply ld_all hT; exact rfl; exact rfl; (repeat (first | exact List.mem_cons_self | apply List.mem_cons_of_mem)); exact rfl))
      | (apply es_box; (iterate 5 exact rfl); intro _) | (apply es_alloc hT; (iterate 5 exact rfl); intro _)
      | (apply aw_condT; (iterate 2 exact rfl)) | (apply aw_condF; (iterate 2 exact rfl))
      | (apply es_case; exact rfl; all_goals intro hb; all_goals (try simp only [hb]); all_goals (first | replace hb := of_decide_eq_true hb | replace hb := of_decide_eq_false hb | replace hb := bne_t hb | replace hb := bne_f hb | skip); all_goals (try (exfalso; omega)))
      | (apply aw_cond; exact rfl; all_goals intro hb; all_goals (try simp only [hb]); all_goals (first | replace hb := of_decide_eq_true hb | replace hb := of_decide_eq_false hb | replace hb := bne_t hb | replace hb := bne_f hb | skip); all_goals (try (exfalso; omega))))
    apply ret1; exact rfl
    exact ⟨by simp [checkV, hb], by (repeat (first | exact dt_end | apply dt_skip))⟩
  rw [hb] at hI
  have h2 := isB_two hb
  by_cases hbad : price < 1 ∨ qty < 1
  · have hv : checkV s price qty l = 1 := by simp [checkV, hb, hbad]
    rw [hv]
    repeat' (first
      | apply aw_seq | apply aw_region | apply aw_ret | apply aw_skip | apply aw_exit | apply aw_block | apply es_nil
      | (apply es_pure hT; (iterate 4 exact rfl)) | (apply es_skip; (iterate 3 exact rfl)) | (apply es_skip0; (iterate 2 exact rfl))
      | (apply es_i64 hT; (iterate 4 exact rfl); (iterate 2 omega))
      | (apply aw_draw [] [] hmix; decide +kernel)
      | (apply es_callQ (hs := (hI.mono (by simp))); (iterate 7 exact rfl))
      | (apply es_load; (iterate 5 exact rfl); first | (apply ld_blk hT; exact rfl; exact rfl; (repeat (first | exact List.mem_cons_self | apply List.mem_cons_of_mem)); exact rfl; exact rfl) | (apply ld_all hT; exact rfl; exact rfl; (repeat (first | exact List.mem_cons_self | apply List.mem_cons_of_mem)); exact rfl))
      | (apply es_box; (iterate 5 exact rfl); intro _) | (apply es_alloc hT; (iterate 5 exact rfl); intro _)
      | (apply aw_condT; (iterate 2 exact rfl)) | (apply aw_condF; (iterate 2 exact rfl))
      | (apply es_case; exact rfl; all_goals intro hb; all_goals (try simp only [hb]); all_goals (first | replace hb := of_decide_eq_true hb | replace hb := of_decide_eq_false hb | replace hb := bne_t hb | replace hb := bne_f hb | skip); all_goals (try (exfalso; omega)))
      | (apply aw_cond; exact rfl; all_goals intro hb; all_goals (try simp only [hb]); all_goals (first | replace hb := of_decide_eq_true hb | replace hb := of_decide_eq_false hb | replace hb := bne_t hb | replace hb := bne_f hb | skip); all_goals (try (exfalso; omega))))
    all_goals first
      | (exfalso; omega)
      | (apply ret1; exact rfl; exact ⟨rfl, by (repeat (first | exact dt_end | apply dt_skip))⟩)
  have hnb : ¬ (isB s = false ∨ price < 1 ∨ qty < 1) := by rw [hb]; simp; omega
  have hsw := depth_Sweep W p A c l (otherB s) qty hB
  cases hm : sweepS (otherB s) l qty with
  | none =>
    have hv : checkV s price qty l = 0 := by unfold checkV; rw [if_neg hnb, hm]
    rw [hv]
    rw [hm] at hsw
    repeat' (first
      | apply aw_seq | apply aw_region | apply aw_ret | apply aw_skip | apply aw_exit | apply aw_block | apply es_nil
      | (apply es_pure hT; (iterate 4 exact rfl)) | (apply es_skip; (iterate 3 exact rfl)) | (apply es_skip0; (iterate 2 exact rfl))
      | (apply es_i64 hT; (iterate 4 exact rfl); (iterate 2 omega))
      | (apply aw_draw [] [] hmix; decide +kernel)
      | (apply es_callQ (hs := (hI.mono (by simp))); (iterate 7 exact rfl))
      | (apply es_callQ (hs := (hO.mono (by simp))); (iterate 7 exact rfl))
      | (apply es_callQ (hs := (hsw.mono (memPairB m1 m2))); (iterate 7 exact rfl))
      | (apply es_alloc hT; (iterate 5 exact rfl); intro g9)
      | (apply es_store hT; (iterate 6 exact rfl); (repeat (first | exact sel0 | apply selS)); (iterate 3 exact rfl); exact Nat.le_of_ble_eq_true rfl)
      | (apply es_load; (iterate 5 exact rfl); first | (apply ld_blk hT; exact rfl; exact rfl; (repeat (first | exact List.mem_cons_self | apply List.mem_cons_of_mem)); exact rfl; exact rfl) | (apply ld_all hT; exact rfl; exact rfl; (repeat (first | exact List.mem_cons_self | apply List.mem_cons_of_mem)); exact rfl))
      | (apply es_box; (iterate 5 exact rfl); intro _) | (apply es_alloc hT; (iterate 5 exact rfl); intro _)
      | (apply aw_condT; (iterate 2 exact rfl)) | (apply aw_condF; (iterate 2 exact rfl))
      | (apply es_case; exact rfl; all_goals intro hb; all_goals (try simp only [hb]); all_goals (first | replace hb := of_decide_eq_true hb | replace hb := of_decide_eq_false hb | replace hb := bne_t hb | replace hb := bne_f hb | skip); all_goals (try (exfalso; omega)))
      | (apply aw_cond; exact rfl; all_goals intro hb; all_goals (try simp only [hb]); all_goals (first | replace hb := of_decide_eq_true hb | replace hb := of_decide_eq_false hb | replace hb := bne_t hb | replace hb := bne_f hb | skip); all_goals (try (exfalso; omega))))
    all_goals first
      | (exfalso; omega)
      | (apply ret1; exact rfl; exact ⟨rfl, by (repeat (first | exact dt_end | apply dt_skip))⟩)
  | some m =>
    have hv : checkV s price qty l = if (s = 1 ∧ m < (price * qty).toNat) ∨ (s = 2 ∧ (price * qty).toNat < m) then 13 else 0 := by unfold checkV; rw [if_neg hnb, hm]
    rw [hv]
    rw [hm] at hsw
    have hT1 := fix_TimesI W price qty (by omega) (by omega)
    have hC := fix_Cmp W m (price * qty).toNat
    obtain ⟨n, hn⟩ : ∃ n, (price * qty).toNat = n := ⟨_, rfl⟩
    rw [hn] at hT1 hC
    rcases cmp3 m n with ⟨c1, c2⟩ | ⟨c1, c2⟩ | ⟨c1, c2⟩
    all_goals
      rw [c2] at hC
      rcases h2 with rfl | rfl
      all_goals
        repeat' (first
          | apply aw_seq | apply aw_region | apply aw_ret | apply aw_skip | apply aw_exit | apply aw_block | apply es_nil
          | (apply es_pure hT; (iterate 4 exact rfl)) | (apply es_skip; (iterate 3 exact rfl)) | (apply es_skip0; (iterate 2 exact rfl))
          | (apply es_i64 hT; (iterate 4 exact rfl); (iterate 2 omega))
          | (apply aw_draw [] [] hmix; decide +kernel)
          | (apply es_callQ (hs := (hI.mono (by simp))); (iterate 7 exact rfl))
          | (apply es_callQ (hs := (hO.mono (by simp))); (iterate 7 exact rfl))
          | (apply es_callQ (hs := (hsw.mono (memPairB (.tail _ m1) (.tail _ m2)))); (iterate 7 exact rfl))
          | (apply es_callQ (hs := (hsw.mono (memPairB m1 m2))); (iterate 7 exact rfl))
          | (apply es_callQ (hs := (hT1.mono (by simp))); (iterate 7 exact rfl))
          | (apply es_callQ (hs := (hC.mono (by simp))); (iterate 7 exact rfl))
          | (apply es_alloc hT; (iterate 5 exact rfl); intro g9)
          | (apply es_store hT; (iterate 6 exact rfl); (repeat (first | exact sel0 | apply selS)); (iterate 3 exact rfl); exact Nat.le_of_ble_eq_true rfl)
          | (apply es_load; (iterate 5 exact rfl); first | (apply ld_blk hT; exact rfl; exact rfl; (repeat (first | exact List.mem_cons_self | apply List.mem_cons_of_mem)); exact rfl; exact rfl) | (apply ld_all hT; exact rfl; exact rfl; (repeat (first | exact List.mem_cons_self | apply List.mem_cons_of_mem)); exact rfl))
          | (apply es_box; (iterate 5 exact rfl); intro _) | (apply es_alloc hT; (iterate 5 exact rfl); intro _)
          | (apply aw_condT; (iterate 2 exact rfl)) | (apply aw_condF; (iterate 2 exact rfl))
          | (apply es_case; exact rfl; all_goals intro hb; all_goals (try simp only [hb]); all_goals (first | replace hb := of_decide_eq_true hb | replace hb := of_decide_eq_false hb | replace hb := bne_t hb | replace hb := bne_f hb | skip); all_goals (try (exfalso; omega)))
          | (apply aw_cond; exact rfl; all_goals intro hb; all_goals (try simp only [hb]); all_goals (first | replace hb := of_decide_eq_true hb | replace hb := of_decide_eq_false hb | replace hb := bne_t hb | replace hb := bne_f hb | skip); all_goals (try (exfalso; omega))))
        all_goals first
          | (exfalso; omega)
          | (apply ret1; exact rfl
             refine ⟨?_, by (repeat (first | exact dt_end | apply dt_skip))⟩
             congr 1
             split <;> first | rfl | (exfalso; rename_i hx; simp only [true_and] at hx; omega) | (exfalso; omega))

set_option maxHeartbeats 1000000 in
theorem ref19_Check (W : World) (p : Nat) (A : Option Addr) (c : Nat) (l : List Order) (s price qty : Int) (hB : BookB l) (hp : price ≤ 9223372036854775807) (hq : qty ≤ 9223372036854775807) :
    QSpec Try.prog W 57 [.pointer (some ⟨p, 0, none⟩), .int .i64 s, .int .i64 price, .int .i64 qty] (refB p A c l []) (.int .i64 (checkV s price qty l)) := by
  refine QSpec.ofD (fun h' hs => ?_)
  have m1 := hs _ mem0
  have m2 := hs _ mem1
  have hI := ref2_Is W s
  have hO := ref2_Other W s
  refine spec_body Try.func57 rfl rfl Try.results57 Try.ntmps57 rfl rfl ?_
  cases hb : isB s
  · rw [hb] at hI
    repeat' (first
      | apply aw_seq | apply aw_region | apply aw_ret | apply aw_skip | apply aw_exit | apply aw_block | apply es_nil
      | (apply es_pure hT; (iterate 4 exact rfl)) | (apply es_skip; (iterate 3 exact rfl)) | (apply es_skip0; (iterate 2 exact rfl))
      | (apply es_i64 hT; (iterate 4 exact rfl); (iterate 2 omega))
      | (apply aw_draw [] [] hmix; decide +kernel)
      | (apply es_callQ (hs := (hI.mono (by simp))); (iterate 7 exact rfl))
      | (apply es_load; (iterate 5 exact rfl); first | (apply ld_blk hT; exact rfl; exact rfl; (repeat (first | exact List.mem_cons_self | apply List.mem_cons_of_mem)); exact rfl; exact rfl) | (apply ld_all hT; exact rfl; exact rfl; (repeat (first | exact List.mem_cons_self | apply List.mem_cons_of_mem)); exact rfl))
      | (apply es_box; (iterate 5 exact rfl); intro _) | (apply es_alloc hT; (iterate 5 exact rfl); intro _)
      | (apply aw_condT; (iterate 2 exact rfl)) | (apply aw_condF; (iterate 2 exact rfl))
      | (apply es_case; exact rfl; all_goals intro hb; all_goals (try simp only [hb]); all_goals (first | replace hb := of_decide_eq_true hb | replace hb := of_decide_eq_false hb | replace hb := bne_t hb | replace hb := bne_f hb | skip); all_goals (try (exfalso; omega)))
      | (apply aw_cond; exact rfl; all_goals intro hb; all_goals (try simp only [hb]); all_goals (first | replace hb := of_decide_eq_true hb | replace hb := of_decide_eq_false hb | replace hb := bne_t hb | replace hb := bne_f hb | skip); all_goals (try (exfalso; omega))))
    apply ret1; exact rfl
    exact ⟨by simp [checkV, hb], by (repeat (first | exact dt_end | apply dt_skip))⟩
  rw [hb] at hI
  have h2 := isB_two hb
  by_cases hbad : price < 1 ∨ qty < 1
  · have hv : checkV s price qty l = 1 := by simp [checkV, hb, hbad]
    rw [hv]
    repeat' (first
      | apply aw_seq | apply aw_region | apply aw_ret | apply aw_skip | apply aw_exit | apply aw_block | apply es_nil
      | (apply es_pure hT; (iterate 4 exact rfl)) | (apply es_skip; (iterate 3 exact rfl)) | (apply es_skip0; (iterate 2 exact rfl))
      | (apply es_i64 hT; (iterate 4 exact rfl); (iterate 2 omega))
      | (apply aw_draw [] [] hmix; decide +kernel)
      | (apply es_callQ (hs := (hI.mono (by simp))); (iterate 7 exact rfl))
      | (apply es_load; (iterate 5 exact rfl); first | (apply ld_blk hT; exact rfl; exact rfl; (repeat (first | exact List.mem_cons_self | apply List.mem_cons_of_mem)); exact rfl; exact rfl) | (apply ld_all hT; exact rfl; exact rfl; (repeat (first | exact List.mem_cons_self | apply List.mem_cons_of_mem)); exact rfl))
      | (apply es_box; (iterate 5 exact rfl); intro _) | (apply es_alloc hT; (iterate 5 exact rfl); intro _)
      | (apply aw_condT; (iterate 2 exact rfl)) | (apply aw_condF; (iterate 2 exact rfl))
      | (apply es_case; exact rfl; all_goals intro hb; all_goals (try simp only [hb]); all_goals (first | replace hb := of_decide_eq_true hb | replace hb := of_decide_eq_false hb | replace hb := bne_t hb | replace hb := bne_f hb | skip); all_goals (try (exfalso; omega)))
      | (apply aw_cond; exact rfl; all_goals intro hb; all_goals (try simp only [hb]); all_goals (first | replace hb := of_decide_eq_true hb | replace hb := of_decide_eq_false hb | replace hb := bne_t hb | replace hb := bne_f hb | skip); all_goals (try (exfalso; omega))))
    all_goals first
      | (exfalso; omega)
      | (apply ret1; exact rfl; exact ⟨rfl, by (repeat (first | exact dt_end | apply dt_skip))⟩)
  have hnb : ¬ (isB s = false ∨ price < 1 ∨ qty < 1) := by rw [hb]; simp; omega
  have hsw := ref16_Sweep W p A c l (otherB s) qty hB
  have hT1 := ref1_TimesI W price qty (by omega) (by omega)
  cases hm : sweepS (otherB s) l qty with
  | none =>
    have hv : checkV s price qty l = 0 := by unfold checkV; rw [if_neg hnb, hm]
    rw [hv]
    rw [hm] at hsw
    have hC := ref1_Cmp W 0 (price * qty).toNat
    generalize (price * qty).toNat = n at hT1 hC
    repeat' (first
      | apply aw_seq | apply aw_region | apply aw_ret | apply aw_skip | apply aw_exit | apply aw_block | apply es_nil
      | (apply es_pure hT; (iterate 4 exact rfl)) | (apply es_skip; (iterate 3 exact rfl)) | (apply es_skip0; (iterate 2 exact rfl))
      | (apply es_i64 hT; (iterate 4 exact rfl); (iterate 2 omega))
      | (apply aw_draw [] [] hmix; decide +kernel)
      | (apply es_callQ (hs := (hI.mono (by simp))); (iterate 7 exact rfl))
      | (apply es_callQ (hs := (hO.mono (by simp))); (iterate 7 exact rfl))
      | (apply es_callQ (hs := (hsw.mono (memPairB m1 m2))); (iterate 7 exact rfl))
      | (apply es_callQ (hs := (hT1.mono (by simp))); (iterate 7 exact rfl))
      | (apply es_callQ (hs := (hC.mono (by simp))); (iterate 7 exact rfl))
      | (apply es_alloc hT; (iterate 5 exact rfl); intro g9)
      | (apply es_store hT; (iterate 6 exact rfl); (repeat (first | exact sel0 | apply selS)); (iterate 3 exact rfl); exact Nat.le_of_ble_eq_true rfl)
      | (apply es_load; (iterate 5 exact rfl); first | (apply ld_blk hT; exact rfl; exact rfl; (repeat (first | exact List.mem_cons_self | apply List.mem_cons_of_mem)); exact rfl; exact rfl) | (apply ld_all hT; exact rfl; exact rfl; (repeat (first | exact List.mem_cons_self | apply List.mem_cons_of_mem)); exact rfl))
      | (apply es_box; (iterate 5 exact rfl); intro _) | (apply es_alloc hT; (iterate 5 exact rfl); intro _)
      | (apply aw_condT; (iterate 2 exact rfl)) | (apply aw_condF; (iterate 2 exact rfl))
      | (apply es_case; exact rfl; all_goals intro hb; all_goals (try simp only [hb]); all_goals (first | replace hb := of_decide_eq_true hb | replace hb := of_decide_eq_false hb | replace hb := bne_t hb | replace hb := bne_f hb | skip); all_goals (try (exfalso; omega)))
      | (apply aw_cond; exact rfl; all_goals intro hb; all_goals (try simp only [hb]); all_goals (first | replace hb := of_decide_eq_true hb | replace hb := of_decide_eq_false hb | replace hb := bne_t hb | replace hb := bne_f hb | skip); all_goals (try (exfalso; omega))))
    all_goals first
      | (exfalso; omega)
      | (apply ret1; exact rfl; exact ⟨rfl, by (repeat (first | exact dt_end | apply dt_skip))⟩)
  | some m =>
    have hv : checkV s price qty l = if (s = 1 ∧ m < (price * qty).toNat) ∨ (s = 2 ∧ (price * qty).toNat < m) then 13 else 0 := by unfold checkV; rw [if_neg hnb, hm]
    rw [hv]
    rw [hm] at hsw
    have hC := ref1_Cmp W m (price * qty).toNat
    obtain ⟨n, hn⟩ : ∃ n, (price * qty).toNat = n := ⟨_, rfl⟩
    rw [hn] at hT1 hC
    rcases cmp3 m n with ⟨c1, c2⟩ | ⟨c1, c2⟩ | ⟨c1, c2⟩
    all_goals
      rw [c2] at hC
      rcases h2 with rfl | rfl
      all_goals
        repeat' (first
          | apply aw_seq | apply aw_region | apply aw_ret | apply aw_skip | apply aw_exit | apply aw_block | apply es_nil
          | (apply es_pure hT; (iterate 4 exact rfl)) | (apply es_skip; (iterate 3 exact rfl)) | (apply es_skip0; (iterate 2 exact rfl))
          | (apply es_i64 hT; (iterate 4 exact rfl); (iterate 2 omega))
          | (apply aw_draw [] [] hmix; decide +kernel)
          | (apply es_callQ (hs := (hI.mono (by simp))); (iterate 7 exact rfl))
          | (apply es_callQ (hs := (hO.mono (by simp))); (iterate 7 exact rfl))
          | (apply es_callQ (hs := (hsw.mono (memPairB m1 m2))); (iterate 7 exact rfl))
          | (apply es_callQ (hs := (hT1.mono (by simp))); (iterate 7 exact rfl))
          | (apply es_callQ (hs := (hC.mono (by simp))); (iterate 7 exact rfl))
          | (apply es_alloc hT; (iterate 5 exact rfl); intro g9)
          | (apply es_store hT; (iterate 6 exact rfl); (repeat (first | exact sel0 | apply selS)); (iterate 3 exact rfl); exact Nat.le_of_ble_eq_true rfl)
          | (apply es_load; (iterate 5 exact rfl); first | (apply ld_blk hT; exact rfl; exact rfl; (repeat (first | exact List.mem_cons_self | apply List.mem_cons_of_mem)); exact rfl; exact rfl) | (apply ld_all hT; exact rfl; exact rfl; (repeat (first | exact List.mem_cons_self | apply List.mem_cons_of_mem)); exact rfl))
          | (apply es_box; (iterate 5 exact rfl); intro _) | (apply es_alloc hT; (iterate 5 exact rfl); intro _)
          | (apply aw_condT; (iterate 2 exact rfl)) | (apply aw_condF; (iterate 2 exact rfl))
          | (apply es_case; exact rfl; all_goals intro hb; all_goals (try simp only [hb]); all_goals (first | replace hb := of_decide_eq_true hb | replace hb := of_decide_eq_false hb | replace hb := bne_t hb | replace hb := bne_f hb | skip); all_goals (try (exfalso; omega)))
          | (apply aw_cond; exact rfl; all_goals intro hb; all_goals (try simp only [hb]); all_goals (first | replace hb := of_decide_eq_true hb | replace hb := of_decide_eq_false hb | replace hb := bne_t hb | replace hb := bne_f hb | skip); all_goals (try (exfalso; omega))))
        all_goals first
          | (exfalso; omega)
          | (apply ret1; exact rfl
             refine ⟨?_, by (repeat (first | exact dt_end | apply dt_skip))⟩
             congr 1
             split <;> first | rfl | (exfalso; rename_i hx; simp only [true_and] at hx; omega) | (exfalso; omega))

def kg1 : Order := ⟨1, 1, 0, 2, 10, 5⟩
set_option maxHeartbeats 1000000 in
theorem gate_known (W : World) : QSpec Try.prog W 55 [] [] (.bool true) := by
  refine QSpec.ofD (fun h' hs => ?_)
  have hbo : bookOf [kg1] = [kg1] := by decide +kernel
  have hB := bookOf_B [kg1]
  rw [hbo] at hB
  have hboth : ∀ g h, Chunk.own (some ⟨g, 0, none⟩) 1 1 29 6 (([kg1] : List Order).flatMap Order.enc) ∈ h → FSpec Try.prog W 56 [.slice (some ⟨g, 0, none⟩) 1 1] h (fun v h' => ∃ p A c q A' c', v = .tuple #[.pointer (some ⟨p, 0, none⟩), .pointer (some ⟨q, 0, none⟩)] ∧ h' = bookTab p A c [kg1] (refB q A' c' [kg1] h)) := fun g h hm => by
    have := both19 W h (some ⟨g, 0, none⟩) 1 [kg1] (Reads.own hm rfl (List.all_eq_true.1 (rfl : (([kg1] : List Order).flatMap Order.enc).all Value.oneCell' = true))) (by simp)
    rw [hbo] at this
    exact this
  have k1 := fun p A c => (gate_Check W p A c [kg1] 1 11 5 hB (by omega) (by omega)).cast (by rw [show checkV 1 11 5 [kg1] = 13 by decide +kernel])
  have k2 := fun p A c => (gate_Check W p A c [kg1] 1 10 5 hB (by omega) (by omega)).cast (by rw [show checkV 1 10 5 [kg1] = 0 by decide +kernel])
  have k3 := fun p A c => (gate_Check W p A c [kg1] 1 11 6 hB (by omega) (by omega)).cast (by rw [show checkV 1 11 6 [kg1] = 0 by decide +kernel])
  refine spec_body Try.func55 rfl rfl Try.results55 Try.ntmps55 rfl rfl ?_
  repeat' (first
    | apply aw_seq | apply aw_region | apply aw_ret | apply aw_skip | apply aw_exit | apply aw_block | apply es_nil
    | (apply es_pure hT; (iterate 4 exact rfl)) | (apply es_skip; (iterate 3 exact rfl)) | (apply es_skip0; (iterate 2 exact rfl))
    | (apply es_i64 hT; (iterate 4 exact rfl); (iterate 2 omega))
    | (apply aw_draw [] [] hmix; decide +kernel)
    | (apply es_build hT; (iterate 4 exact rfl))
    | (apply es_buildSlice hT; (iterate 12 exact rfl); intro g)
    | (apply es_call (hs := (hboth _ _ mem0)); (iterate 7 exact rfl); rintro _ _ ⟨p, A, c, q, A', c', rfl, rfl⟩)
    | (apply es_callQ (hs := ((k1 p A c).mono (memPairB mem0 mem1))); (iterate 7 exact rfl))
    | (apply es_callQ (hs := ((k2 p A c).mono (memPairB mem0 mem1))); (iterate 7 exact rfl))
    | (apply es_callQ (hs := ((k3 p A c).mono (memPairB mem0 mem1))); (iterate 7 exact rfl))
    | (apply es_load; (iterate 5 exact rfl); first | (apply ld_blk hT; exact rfl; exact rfl; (repeat (first | exact List.mem_cons_self | apply List.mem_cons_of_mem)); exact rfl; exact rfl) | (apply ld_all hT; exact rfl; exact rfl; (repeat (first | exact List.mem_cons_self | apply List.mem_cons_of_mem)); exact rfl))
    | (apply es_box; (iterate 5 exact rfl); intro _) | (apply es_alloc hT; (iterate 5 exact rfl); intro _)
    | (apply aw_condT; (iterate 2 exact rfl)) | (apply aw_condF; (iterate 2 exact rfl))
    | (apply es_case; exact rfl; all_goals intro hb; all_goals (try simp only [hb]); all_goals (first | replace hb := of_decide_eq_true hb | replace hb := of_decide_eq_false hb | replace hb := bne_t hb | replace hb := bne_f hb | skip); all_goals (try (exfalso; omega)))
    | (apply aw_cond; exact rfl; all_goals intro hb; all_goals (try simp only [hb]); all_goals (first | replace hb := of_decide_eq_true hb | replace hb := of_decide_eq_false hb | replace hb := bne_t hb | replace hb := bne_f hb | skip); all_goals (try (exfalso; omega))))
  all_goals first
    | (exfalso; omega)
    | (apply ret1; exact rfl; exact ⟨rfl, by (repeat (first | exact dt_end | apply dt_skip))⟩)
    | skip
end Go.Proofs.Ytiefkpfamkkapaa
