/- Contracts of package book on rows that are told; the law's own 'known'. Conditions stand in each statement. -/
import Derived.Test.YtiefkpfamkkapaaBook2
import Derived.Test.YtiefkpfamkkapaaRow
set_option linter.unusedSimpArgs false
set_option linter.unusedVariables false
namespace Go.Proofs.Ytiefkpfamkkapaa
open Go Go.Sl
attribute [local irreducible] AW ES EP Ld RetQ
set_option maxRecDepth 100000

structure BookB (l : List Order) : Prop where
  seq : uqSeq l
  id : l.Pairwise fun a b => a.id ≠ b.id
  ok : ∀ o ∈ l, okO o = true
  len : l.length ≤ 64
theorem BookB.nil : BookB [] := ⟨List.Pairwise.nil, List.Pairwise.nil, (fun o h => by cases h), Nat.zero_le _⟩
theorem okO_side {o : Order} (h : okO o = true) : isB o.side = true := by simp only [okO, Bool.and_eq_true] at h; exact h.2
theorem okO_left {o : Order} (h : okO o = true) : 1 ≤ o.left ∧ o.left ≤ 1000000 := by
  simp only [okO, Bool.and_eq_true, decide_eq_true_eq] at h
  exact ⟨h.1.1.1.2, h.1.1.2⟩
theorem BookB.side {l : List Order} (h : BookB l) : ∀ o ∈ l, isB o.side = true := fun o ho => okO_side (h.ok o ho)
theorem BookB.left {l : List Order} (h : BookB l) : ∀ o ∈ l, 1 ≤ o.left ∧ o.left ≤ 1000000 := fun o ho => okO_left (h.ok o ho)
theorem BookB.le {l : List Order} (h : BookB l) : l.length ≤ 1000000 := by have := h.len; omega
theorem addO_len (o : Order) (l : List Order) : (addO o l).length ≤ l.length + 1 := by unfold addO; split <;> simp
theorem BookB.add {l : List Order} (h : BookB l) (o : Order) : BookB (addO o l) := by
  unfold addO
  split
  · rename_i h0
    have hE := h0
    unfold addOE at hE
    have h1 : ¬ (okO o = false ∨ idxOf (clashO o) l ≥ 0) := fun hh => by rw [if_pos hh] at hE; omega
    rw [if_neg h1] at hE
    have h2 : ¬ l.length ≥ 64 := fun hh => by rw [if_pos hh] at hE; omega
    have hno : ∀ x ∈ l, clashO o x = false := idxOf_neg'.1 (by omega)
    have hok : okO o = true := by
      cases hh : okO o
      · exact absurd (.inl hh) h1
      · rfl
    have hne : ∀ x ∈ l, x.id ≠ o.id ∧ x.seq ≠ o.seq := fun x hx => by
      have := hno x hx
      simp only [clashO, Bool.or_eq_false_iff, beq_eq_false_iff_ne] at this
      exact this
    refine ⟨?_, ?_, ?_, by simp; omega⟩
    · unfold uqSeq
      rw [List.pairwise_append]
      exact ⟨h.seq, by simp, fun a ha b hb => by rw [List.mem_singleton.1 hb]; exact (hne a ha).2⟩
    · rw [List.pairwise_append]
      exact ⟨h.id, by simp, fun a ha b hb => by rw [List.mem_singleton.1 hb]; exact (hne a ha).1⟩
    · intro x hx
      rcases List.mem_append.1 hx with hx | hx
      · exact h.ok x hx
      · rw [List.mem_singleton.1 hx]; exact hok
  · exact h
theorem sOKLevel : structOK Try.prog 35 := ⟨by kernel_rfl, by kernel_rfl⟩
theorem sOKOrder : structOK Try.prog 29 := ⟨by kernel_rfl, by kernel_rfl⟩

theorem book_AddB (W : World) (p : Nat) (l : List Order) (o : Order) (e : Int) (m : List Order) (hb : l.length ≤ 1000000) (hv : addOE o l = e) (hm : addO o l = m) (F : List Chunk) (A : Option Addr) (c : Nat) :
    FSpec Try.prog W 27 [.pointer (some ⟨p, 0, none⟩), .agg o.enc.toArray] (bookTab p A c l F) (fun v h' => v = .int .i64 e ∧ ∃ A' c', h' = bookTab p A' c' m F) := by
  subst hv hm
  exact book_Add W F p A c l o hb
theorem book_LevelsB (W : World) (p : Nat) (l : List Order) (s : Int) (m : List Lvl) (hB : BookB l) (hm : levelsO (sideO s l) = m) (F : List Chunk) (A : Option Addr) (c : Nat) :
    FSpec Try.prog W 30 [.pointer (some ⟨p, 0, none⟩), .int .i64 s] (bookTab p A c l F)
      (fun v h' => ∃ A' c', v = .slice A' m.length c' ∧ h' = bookTab p A c l (.own A' m.length c' 35 2 (m.flatMap Lvl.enc) :: F) ∧ OwnF A' m.length c' 2 (m.flatMap Lvl.enc)) := by
  subst hm
  exact (book_Levels W (bookTab p A c l F) p A c l s mem0 mem1 hB.le hB.seq hB.side hB.left).conv (by
    rintro v h' ⟨A', c', rfl, rfl, hf⟩ w hw
    exact ⟨_, hw.perm (selS (selS sel0)).symm, A', c', rfl, rfl, hf⟩)
theorem book_SideB (W : World) (p : Nat) (l : List Order) (s : Int) (m : List Order) (hB : BookB l) (hm : sideO s l = m) (F : List Chunk) (A : Option Addr) (c : Nat) :
    FSpec Try.prog W 28 [.pointer (some ⟨p, 0, none⟩), .int .i64 s] (bookTab p A c l F)
      (fun v h' => ∃ A' c', v = .slice A' m.length c' ∧ h' = bookTab p A c l (.own A' m.length c' 29 6 (m.flatMap Order.enc) :: F) ∧ OwnF A' m.length c' 6 (m.flatMap Order.enc)) := by
  subst hm
  exact (book_Side W (bookTab p A c l F) p A c l s mem0 mem1 hB.le hB.seq hB.side).conv (by
    rintro v h' ⟨A', c', rfl, rfl, hf⟩ w hw
    exact ⟨_, hw.perm (selS (selS sel0)).symm, A', c', rfl, rfl, hf⟩)

def kb1 : Order := ⟨1, 1, 0, 1, 3, 5⟩
def kb2 : Order := ⟨2, 2, 0, 1, 4, 6⟩
theorem kbB : BookB [kb1, kb2] := by
  have h1 : addO kb1 [] = [kb1] := rfl
  have h2 : addO kb2 [kb1] = [kb1, kb2] := rfl
  rw [← h2, ← h1]
  exact (BookB.nil.add kb1).add kb2
set_option maxHeartbeats 1000000 in
theorem book_known (W : World) : QSpec Try.prog W 31 [] [] (.bool true) := by
  refine QSpec.ofD (fun h' hs => ?_)
  refine spec_body Try.func31 rfl rfl Try.results31 Try.ntmps31 rfl rfl ?_
  have hadd1 := fun p => book_AddB W p [] kb1 0 [kb1] (by simp) rfl rfl
  have hadd2 := fun p => book_AddB W p [kb1] kb2 0 [kb1, kb2] (by simp) rfl rfl
  have hlev1 := fun p => book_LevelsB W p [kb1, kb2] 1 [⟨4, 6⟩, ⟨3, 5⟩] kbB rfl
  have hlev2 := fun p => book_LevelsB W p [kb1, kb2] 2 [] kbB rfl
  repeat' (first
    | apply aw_seq | apply aw_region | apply aw_ret | apply aw_skip | apply aw_exit | apply aw_block | apply es_nil
    | (apply es_pure hT; (iterate 4 exact rfl)) | (apply es_skip; (iterate 3 exact rfl)) | (apply es_skip0; (iterate 2 exact rfl))
    | (apply es_i64 hT; (iterate 4 exact rfl); (iterate 2 omega))
    | (apply aw_draw [] [] hmix; decide +kernel)
    | (apply es_call (hs := (book_New W _)); (iterate 7 exact rfl); rintro _ _ ⟨p, A, c, rfl, rfl⟩)
    | (apply es_build hT; (iterate 4 exact rfl))
    | (apply es_call (hs := (hadd1 _ _ _ _)); (iterate 7 exact rfl); rintro _ _ ⟨rfl, A1, c1, rfl⟩)
    | (apply es_call (hs := (hadd2 _ _ _ _)); (iterate 7 exact rfl); rintro _ _ ⟨rfl, A2, c2, rfl⟩)
    | (apply es_call (hs := (hlev1 _ _ _ _)); (iterate 7 exact rfl); rintro _ _ ⟨A3, c3, rfl, rfl, hf3⟩)
    | (apply es_call (hs := (hlev2 _ _ _ _)); (iterate 7 exact rfl); rintro _ _ ⟨A4, c4, rfl, rfl, hf4⟩)
    | (apply es_idx hT; (iterate 8 exact rfl); omega; (show (0 : Int) < 2; omega); exact hf3.some_ (by simp))
    | (apply es_load; (iterate 5 exact rfl); exact ld_elem hT rfl rfl (hf3.reads mem2) Lvl.enc_len rfl (rfl : ([⟨4, 6⟩, ⟨3, 5⟩] : List Lvl)[0]? = some ⟨4, 6⟩) rfl)
    | (apply es_eqS hT; (iterate 5 exact rfl); exact rfl; exact sOKLevel)
    | (apply es_load; (iterate 5 exact rfl); first | exact ld_blk hT rfl rfl mem0 rfl rfl | exact ld_all hT rfl rfl mem0 rfl)
    | (apply es_load; (iterate 5 exact rfl); first | exact ld_blk hT rfl rfl mem1 rfl rfl | exact ld_all hT rfl rfl mem1 rfl)
    | (apply es_load; (iterate 5 exact rfl); first | exact ld_blk hT rfl rfl mem2 rfl rfl | exact ld_all hT rfl rfl mem2 rfl)
    | (apply es_load; (iterate 5 exact rfl); first | exact ld_blk hT rfl rfl mem2 rfl rfl | exact ld_all hT rfl rfl mem2 rfl)
    | (apply es_load; (iterate 5 exact rfl); first | exact ld_blk hT rfl rfl (List.mem_cons_of_mem _ mem2) rfl rfl | exact ld_all hT rfl rfl (List.mem_cons_of_mem _ mem2) rfl)
    | (apply es_load; (iterate 5 exact rfl); first | exact ld_blk hT rfl rfl mem3 rfl rfl | exact ld_all hT rfl rfl mem3 rfl)
    | (apply es_load; (iterate 5 exact rfl); first | exact ld_blk hT rfl rfl (List.mem_cons_of_mem _ mem3) rfl rfl | exact ld_all hT rfl rfl (List.mem_cons_of_mem _ mem3) rfl)
    | (apply es_box; (iterate 5 exact rfl); intro _) | (apply es_alloc hT; (iterate 5 exact rfl); intro _)
    | (apply aw_condT; (iterate 2 exact rfl)) | (apply aw_condF; (iterate 2 exact rfl))
    | (apply es_case; exact rfl; all_goals intro hb; all_goals (try simp only [hb]); all_goals (first | replace hb := of_decide_eq_true hb | replace hb := of_decide_eq_false hb | replace hb := bne_t hb | replace hb := bne_f hb | skip); all_goals (try (exfalso; omega)))
    | (apply aw_cond; exact rfl; all_goals intro hb; all_goals (try simp only [hb]); all_goals (first | replace hb := of_decide_eq_true hb | replace hb := of_decide_eq_false hb | replace hb := bne_t hb | replace hb := bne_f hb | skip); all_goals (try (exfalso; omega))))
  apply ret1; exact rfl
  exact ⟨rfl, by (repeat (first | exact dt_end | apply dt_skip))⟩
end Go.Proofs.Ytiefkpfamkkapaa
