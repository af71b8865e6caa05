/- Contracts of package due: what each method does to the rows that are held. Conditions stand in each statement. -/
import Derived.Test.YtmoglacdddinjaaLibDue
import Derived.Test.YtmoglacdddinjaaSearchDue
import Derived.Test.YtmoglacdddinjaaInsertDue
import Derived.Test.YtmoglacdddinjaaSlH
set_option linter.unusedSimpArgs false
set_option linter.unusedVariables false
namespace Go.Proofs.Ytmoglacdddinjaa
open Go Go.Sl
attribute [local irreducible] AW ES Ld RetQ
set_option maxRecDepth 100000

/-- a Row in memory -/
def dueRow (p : Nat) (A : Option Addr) (c : Nat) (l : List Due) (F : List Chunk) : List Chunk :=
  .blk p 109 [.slice A l.length c] :: .own A l.length c 39 3 (l.flatMap Due.enc) :: F

def ordD (a b : Due) : Int := orI [cmpI a.tick b.tick, cmpI a.kind b.kind, cmpI a.id b.id]
def hasD (kind id : Int) (d : Due) : Bool := d.kind == kind && d.id == id

theorem due_find1 (W : World) (d : Due) (b1 b2 : Nat) (kind id : Int) :
   QSpec Try.prog W 89 [.agg d.enc.toArray, .pointer (some ⟨b1, 0, none⟩), .pointer (some ⟨b2, 0, none⟩)] [.blk b1 3 [.int .i64 kind], .blk b2 2 [.int .i64 id]] (.bool (hasD kind id d)) := by
  refine QSpec.of (fun h' hs => ?_)
  have m1 := hs _ mem0
  have m2 := hs _ mem1
  refine spec_body Try.func89 rfl rfl Try.results89 Try.ntmps89 rfl rfl ?_
  repeat' (first
    | apply aw_seq | apply aw_region | apply aw_ret | apply aw_skip | apply aw_exit | apply aw_block | apply es_nil
    | (apply es_pure hT; (iterate 4 exact rfl)) | (apply es_skip; (iterate 3 exact rfl)) | (apply es_skip0; (iterate 2 exact rfl))
    | (apply es_i64 hT; (iterate 4 exact rfl); (iterate 2 omega))
    | (apply aw_draw [] [] hmix; decide +kernel)
    | (apply es_load; (iterate 5 exact rfl); first | exact ld_blk hT rfl rfl mem0 rfl rfl | exact ld_all hT rfl rfl mem0 rfl)
    | (apply es_load; (iterate 5 exact rfl); first | exact ld_blk hT rfl rfl mem1 rfl rfl | exact ld_all hT rfl rfl mem1 rfl)
    | (apply es_load; (iterate 5 exact rfl); first | exact ld_blk hT rfl rfl mem2 rfl rfl | exact ld_all hT rfl rfl mem2 rfl)
    | (apply es_load; (iterate 5 exact rfl); first | exact ld_blk hT rfl rfl m1 rfl rfl | exact ld_all hT rfl rfl m1 rfl)
    | (apply es_load; (iterate 5 exact rfl); first | exact ld_blk hT rfl rfl (List.mem_cons_of_mem _ m1) rfl rfl | exact ld_all hT rfl rfl (List.mem_cons_of_mem _ m1) rfl)
    | (apply es_load; (iterate 5 exact rfl); first | exact ld_blk hT rfl rfl m2 rfl rfl | exact ld_all hT rfl rfl m2 rfl)
    | (apply es_load; (iterate 5 exact rfl); first | exact ld_blk hT rfl rfl (List.mem_cons_of_mem _ m2) rfl rfl | exact ld_all hT rfl rfl (List.mem_cons_of_mem _ m2) rfl)
    | (apply es_box; (iterate 5 exact rfl); intro _) | (apply es_alloc hT; (iterate 5 exact rfl); intro _)
    | (apply aw_condT; (iterate 2 exact rfl)) | (apply aw_condF; (iterate 2 exact rfl))
    | (apply es_case; exact rfl; all_goals intro hb; all_goals (try simp only [hb]); all_goals (first | replace hb := of_decide_eq_true hb | replace hb := of_decide_eq_false hb | replace hb := bne_t hb | replace hb := bne_f hb | skip); all_goals (try (exfalso; omega)))
    | (apply aw_cond; exact rfl; all_goals intro hb; all_goals (try simp only [hb]); all_goals (first | replace hb := of_decide_eq_true hb | replace hb := of_decide_eq_false hb | replace hb := bne_t hb | replace hb := bne_f hb | skip); all_goals (try (exfalso; omega))))
  · apply retQ1 (J := [_]); exact rfl; rotate_left; exact List.Perm.refl _
    simp [hasD, hb]
  · apply retQ1 (J := [_]); exact rfl; rotate_left; exact List.Perm.refl _
    simp [hasD, hb]

theorem due_order (W : World) (a b : Due) : QSpec Try.prog W 66 [.agg a.enc.toArray, .agg b.enc.toArray] [] (.int .i64 (ordD a b)) := by
  refine QSpec.of (fun h' hs => ?_)
  refine spec_body Try.func66 rfl rfl Try.results66 Try.ntmps66 rfl rfl ?_
  repeat' (first
    | apply aw_seq | apply aw_region | apply aw_ret | apply aw_skip | apply aw_exit | apply aw_block | apply es_nil
    | (apply es_pure hT; (iterate 4 exact rfl)) | (apply es_skip; (iterate 3 exact rfl)) | (apply es_skip0; (iterate 2 exact rfl))
    | (apply es_i64 hT; (iterate 4 exact rfl); (iterate 2 omega))
    | (apply aw_draw [85, 91, 90] [] hmix; decide +kernel)
    | (apply es_callQ (hs := ((cmp64 W _ _).mono (by simp))); (iterate 7 exact rfl))
    | (apply es_callQ (hs := ((cmpi W _ _).mono (by simp))); (iterate 7 exact rfl))
    | (apply es_buildSlice hT; (iterate 12 exact rfl); intro g1)
    | (apply es_callQ (hs := (cmpOr W _ _ 3 3 [cmpI a.tick b.tick, cmpI a.kind b.kind, cmpI a.id b.id] rfl (Reads.own mem0 rfl (by simp [Value.oneCell'])) (by omega))); (iterate 7 exact rfl))
    | (apply es_load; (iterate 5 exact rfl); first | exact ld_blk hT rfl rfl mem0 rfl rfl | exact ld_all hT rfl rfl mem0 rfl)
    | (apply es_load; (iterate 5 exact rfl); first | exact ld_blk hT rfl rfl mem1 rfl rfl | exact ld_all hT rfl rfl mem1 rfl)
    | (apply es_load; (iterate 5 exact rfl); first | exact ld_blk hT rfl rfl mem2 rfl rfl | exact ld_all hT rfl rfl mem2 rfl)
    | (apply es_box; (iterate 5 exact rfl); intro _) | (apply es_alloc hT; (iterate 5 exact rfl); intro _)
    | (apply aw_condT; (iterate 2 exact rfl)) | (apply aw_condF; (iterate 2 exact rfl))
    | (apply es_case; exact rfl; all_goals intro hb; all_goals (try simp only [hb]); all_goals (first | replace hb := of_decide_eq_true hb | replace hb := of_decide_eq_false hb | replace hb := bne_t hb | replace hb := bne_f hb | skip); all_goals (try (exfalso; omega)))
    | (apply aw_cond; exact rfl; all_goals intro hb; all_goals (try simp only [hb]); all_goals (first | replace hb := of_decide_eq_true hb | replace hb := of_decide_eq_false hb | replace hb := bne_t hb | replace hb := bne_f hb | skip); all_goals (try (exfalso; omega))))
  apply retQ1 (J := [_, _, _]); exact rfl; exact rfl; exact List.Perm.refl _

theorem due_New (W : World) (h : List Chunk) : FSpec Try.prog W 19 [] h (fun v h' => ∃ p A c, v = .pointer (some ⟨p, 0, none⟩) ∧ h' = dueRow p A c [] h) := by
  refine FSpec.conv (R := fun v h' => ∃ p, v = .pointer (some ⟨p, 0, none⟩) ∧ h' = .blk p 109 [.slice none 0 0] :: h) ?_ ?_
  · refine spec_body Try.func19 rfl rfl Try.results19 Try.ntmps19 rfl rfl ?_
    repeat' (first
      | apply aw_seq | apply aw_region | apply aw_ret | apply aw_skip | apply aw_exit | apply aw_block | apply es_nil
      | (apply es_pure hT; (iterate 4 exact rfl)) | (apply es_skip; (iterate 3 exact rfl)) | (apply es_skip0; (iterate 2 exact rfl))
      | (apply es_i64 hT; (iterate 4 exact rfl); (iterate 2 omega))
      | (apply aw_draw [] [] hmix; decide +kernel)
      | (apply es_build hT; (iterate 4 exact rfl))
      | (apply es_load; (iterate 5 exact rfl); first | exact ld_blk hT rfl rfl mem0 rfl rfl | exact ld_all hT rfl rfl mem0 rfl)
      | (apply es_load; (iterate 5 exact rfl); first | exact ld_blk hT rfl rfl mem1 rfl rfl | exact ld_all hT rfl rfl mem1 rfl)
      | (apply es_load; (iterate 5 exact rfl); first | exact ld_blk hT rfl rfl mem2 rfl rfl | exact ld_all hT rfl rfl mem2 rfl)
      | (apply es_box; (iterate 5 exact rfl); intro _) | (apply es_alloc hT; (iterate 5 exact rfl); intro _)
      | (apply aw_condT; (iterate 2 exact rfl)) | (apply aw_condF; (iterate 2 exact rfl))
      | (apply es_case; exact rfl; all_goals intro hb; all_goals (try simp only [hb]); all_goals (first | replace hb := of_decide_eq_true hb | replace hb := of_decide_eq_false hb | replace hb := bne_t hb | replace hb := bne_f hb | skip); all_goals (try (exfalso; omega)))
      | (apply aw_cond; exact rfl; all_goals intro hb; all_goals (try simp only [hb]); all_goals (first | replace hb := of_decide_eq_true hb | replace hb := of_decide_eq_false hb | replace hb := bne_t hb | replace hb := bne_f hb | skip); all_goals (try (exfalso; omega))))
    apply ret1; exact rfl
    exact ⟨_, rfl, rfl⟩
  · rintro v h' ⟨p, rfl, rfl⟩ w hw
    exact ⟨_, (hw.own_nil 39 3).perm sel1, p, none, 0, rfl, rfl⟩

theorem due_find (W : World) (p : Nat) (A : Option Addr) (c : Nat) (l : List Due) (kind id : Int) (hb : l.length ≤ 1000000) :
    QSpec Try.prog W 64 [.pointer (some ⟨p, 0, none⟩), .int .i64 kind, .int .i64 id] (dueRow p A c l []) (.int .i64 (idxOf (hasD kind id) l)) := by
  refine QSpec.of (fun h' hs => ?_)
  have m1 := hs _ mem0
  have m2 := hs _ mem1
  refine spec_body Try.func64 rfl rfl Try.results64 Try.ntmps64 rfl rfl ?_
  refine aw_fact m2 (fun hl hnc hcc hsome hnone hone => ?_)
  have hr := Reads.own (W := W) m2 hl hone
  have hq : ∀ g1 g2, QSpec Try.prog W 88 [.slice A l.length c, .func (.func 89) #[] #[.pointer (some ⟨g1, 0, none⟩), .pointer (some ⟨g2, 0, none⟩)]]
      (.blk g2 2 [.int .i64 id] :: .blk g1 3 [.int .i64 kind] :: h') (.int .i64 (idxOf (hasD kind id) l)) := fun g1 g2 =>
    indexFuncDue W _ A _ c l rfl hr.cons.cons _ [_, _] (hasD kind id) (fun x _ => (due_find1 W x g1 g2 kind id).mono (by intro c hc; simp only [List.mem_cons, List.not_mem_nil, or_false] at hc; rcases hc with rfl | rfl <;> simp)) (by omega)
  repeat' (first
    | apply aw_seq | apply aw_region | apply aw_ret | apply aw_skip | apply aw_exit | apply aw_block | apply es_nil
    | (apply es_pure hT; (iterate 4 exact rfl)) | (apply es_skip; (iterate 3 exact rfl)) | (apply es_skip0; (iterate 2 exact rfl))
    | (apply es_i64 hT; (iterate 4 exact rfl); (iterate 2 omega))
    | (apply aw_draw [] [] hmix; decide +kernel)
    | (apply es_callQ (hs := (hq _ _)); (iterate 7 exact rfl))
    | (apply es_load; (iterate 5 exact rfl); first | exact ld_blk hT rfl rfl mem0 rfl rfl | exact ld_all hT rfl rfl mem0 rfl)
    | (apply es_load; (iterate 5 exact rfl); first | exact ld_blk hT rfl rfl mem1 rfl rfl | exact ld_all hT rfl rfl mem1 rfl)
    | (apply es_load; (iterate 5 exact rfl); first | exact ld_blk hT rfl rfl mem2 rfl rfl | exact ld_all hT rfl rfl mem2 rfl)
    | (apply es_load; (iterate 5 exact rfl); first | exact ld_blk hT rfl rfl m1 rfl rfl | exact ld_all hT rfl rfl m1 rfl)
    | (apply es_load; (iterate 5 exact rfl); first | exact ld_blk hT rfl rfl (List.mem_cons_of_mem _ m1) rfl rfl | exact ld_all hT rfl rfl (List.mem_cons_of_mem _ m1) rfl)
    | (apply es_load; (iterate 5 exact rfl); first | exact ld_blk hT rfl rfl (List.mem_cons_of_mem _ (List.mem_cons_of_mem _ m1)) rfl rfl | exact ld_all hT rfl rfl (List.mem_cons_of_mem _ (List.mem_cons_of_mem _ m1)) rfl)
    | (apply es_box; (iterate 5 exact rfl); intro _) | (apply es_alloc hT; (iterate 5 exact rfl); intro _)
    | (apply aw_condT; (iterate 2 exact rfl)) | (apply aw_condF; (iterate 2 exact rfl))
    | (apply es_case; exact rfl; all_goals intro hb; all_goals (try simp only [hb]); all_goals (first | replace hb := of_decide_eq_true hb | replace hb := of_decide_eq_false hb | replace hb := bne_t hb | replace hb := bne_f hb | skip); all_goals (try (exfalso; omega)))
    | (apply aw_cond; exact rfl; all_goals intro hb; all_goals (try simp only [hb]); all_goals (first | replace hb := of_decide_eq_true hb | replace hb := of_decide_eq_false hb | replace hb := bne_t hb | replace hb := bne_f hb | skip); all_goals (try (exfalso; omega))))
  apply retQ1 (J := [_, _]); exact rfl; exact rfl; exact List.Perm.refl _

theorem due_Len (W : World) (p : Nat) (A : Option Addr) (c : Nat) (l : List Due) :
    QSpec Try.prog W 21 [.pointer (some ⟨p, 0, none⟩)] (dueRow p A c l []) (.int .i64 l.length) := by
  refine QSpec.of (fun h' hs => ?_)
  have m1 := hs _ mem0
  refine spec_body Try.func21 rfl rfl Try.results21 Try.ntmps21 rfl rfl ?_
  repeat' (first
    | apply aw_seq | apply aw_region | apply aw_ret | apply aw_skip | apply aw_exit | apply aw_block | apply es_nil
    | (apply es_pure hT; (iterate 4 exact rfl)) | (apply es_skip; (iterate 3 exact rfl)) | (apply es_skip0; (iterate 2 exact rfl))
    | (apply es_i64 hT; (iterate 4 exact rfl); (iterate 2 omega))
    | (apply aw_draw [] [] hmix; decide +kernel)
    | (apply es_load; (iterate 5 exact rfl); first | exact ld_blk hT rfl rfl mem0 rfl rfl | exact ld_all hT rfl rfl mem0 rfl)
    | (apply es_load; (iterate 5 exact rfl); first | exact ld_blk hT rfl rfl mem1 rfl rfl | exact ld_all hT rfl rfl mem1 rfl)
    | (apply es_load; (iterate 5 exact rfl); first | exact ld_blk hT rfl rfl mem2 rfl rfl | exact ld_all hT rfl rfl mem2 rfl)
    | (apply es_load; (iterate 5 exact rfl); first | exact ld_blk hT rfl rfl m1 rfl rfl | exact ld_all hT rfl rfl m1 rfl)
    | (apply es_load; (iterate 5 exact rfl); first | exact ld_blk hT rfl rfl (List.mem_cons_of_mem _ m1) rfl rfl | exact ld_all hT rfl rfl (List.mem_cons_of_mem _ m1) rfl)
    | (apply es_box; (iterate 5 exact rfl); intro _) | (apply es_alloc hT; (iterate 5 exact rfl); intro _)
    | (apply aw_condT; (iterate 2 exact rfl)) | (apply aw_condF; (iterate 2 exact rfl))
    | (apply es_case; exact rfl; all_goals intro hb; all_goals (try simp only [hb]); all_goals (first | replace hb := of_decide_eq_true hb | replace hb := of_decide_eq_false hb | replace hb := bne_t hb | replace hb := bne_f hb | skip); all_goals (try (exfalso; omega)))
    | (apply aw_cond; exact rfl; all_goals intro hb; all_goals (try simp only [hb]); all_goals (first | replace hb := of_decide_eq_true hb | replace hb := of_decide_eq_false hb | replace hb := bne_t hb | replace hb := bne_f hb | skip); all_goals (try (exfalso; omega))))
  exact retQ1 (J := []) rfl rfl (List.Perm.refl _)

theorem due_LenNil (W : World) : QSpec Try.prog W 21 [.pointer none] [] (.int .i64 0) := by
  refine QSpec.of (fun h' hs => ?_)
  refine spec_body Try.func21 rfl rfl Try.results21 Try.ntmps21 rfl rfl ?_
  repeat' (first
    | apply aw_seq | apply aw_region | apply aw_ret | apply aw_skip | apply aw_exit | apply aw_block | apply es_nil
    | (apply es_pure hT; (iterate 4 exact rfl)) | (apply es_skip; (iterate 3 exact rfl)) | (apply es_skip0; (iterate 2 exact rfl))
    | (apply es_i64 hT; (iterate 4 exact rfl); (iterate 2 omega))
    | (apply aw_draw [] [] hmix; decide +kernel)
    | (apply es_load; (iterate 5 exact rfl); first | exact ld_blk hT rfl rfl mem0 rfl rfl | exact ld_all hT rfl rfl mem0 rfl)
    | (apply es_load; (iterate 5 exact rfl); first | exact ld_blk hT rfl rfl mem1 rfl rfl | exact ld_all hT rfl rfl mem1 rfl)
    | (apply es_load; (iterate 5 exact rfl); first | exact ld_blk hT rfl rfl mem2 rfl rfl | exact ld_all hT rfl rfl mem2 rfl)
    | (apply es_box; (iterate 5 exact rfl); intro _) | (apply es_alloc hT; (iterate 5 exact rfl); intro _)
    | (apply aw_condT; (iterate 2 exact rfl)) | (apply aw_condF; (iterate 2 exact rfl))
    | (apply es_case; exact rfl; all_goals intro hb; all_goals (try simp only [hb]); all_goals (first | replace hb := of_decide_eq_true hb | replace hb := of_decide_eq_false hb | replace hb := bne_t hb | replace hb := bne_f hb | skip); all_goals (try (exfalso; omega)))
    | (apply aw_cond; exact rfl; all_goals intro hb; all_goals (try simp only [hb]); all_goals (first | replace hb := of_decide_eq_true hb | replace hb := of_decide_eq_false hb | replace hb := bne_t hb | replace hb := bne_f hb | skip); all_goals (try (exfalso; omega))))
  exact retQ1 (J := []) rfl rfl (List.Perm.refl _)

/-- where a thing is put -/
def insD (l : List Due) (d : Due) : List Due := l.take (bsN (ordD · d) l) ++ [d] ++ l.drop (bsN (ordD · d) l)
theorem insD_len (l : List Due) (d : Due) : (insD l d).length = l.length + 1 := by simp [insD]; omega
def addD (l : List Due) (d : Due) : List Due := if idxOf (hasD d.kind d.id) l < 0 then insD l d else l

theorem due_Add (W : World) (F : List Chunk) (p : Nat) (A : Option Addr) (c : Nat) (l : List Due) (d : Due) (hb : l.length ≤ 1000000)
    (hmono : ∀ (i j : Nat) x y, i ≤ j → l[i]? = some x → l[j]? = some y → ordD y d < 0 → ordD x d < 0) :
    FSpec Try.prog W 20 [.pointer (some ⟨p, 0, none⟩), .agg d.enc.toArray] (dueRow p A c l F) (fun v h' => v = .bool (decide (idxOf (hasD d.kind d.id) l < 0)) ∧ ∃ A' c', h' = dueRow p A' c' (addD l d) F) := by
  refine FSpec.dropTo ?_
  refine spec_body Try.func20 rfl rfl Try.results20 Try.ntmps20 rfl rfl ?_
  have hfind : ∀ g1, QSpec Try.prog W 64 [.pointer (some ⟨p, 0, none⟩), .int .i64 d.kind, .int .i64 d.id] (.blk g1 39 d.enc.toArray.toList :: dueRow p A c l F) (.int .i64 (idxOf (hasD d.kind d.id) l)) := fun g1 =>
    (due_find W p A c l d.kind d.id hb).mono (by intro c hc; simp only [dueRow, List.mem_cons, List.not_mem_nil, or_false] at hc ⊢; rcases hc with rfl | rfl <;> simp)
  refine aw_fact (h := dueRow p A c l F) mem1 (fun hl hnc hcc hsome hnone hone => ?_)
  by_cases hi : idxOf (hasD d.kind d.id) l < 0
  · have hd : decide (idxOf (hasD d.kind d.id) l ≥ 0) = false := by simp; omega
    have hr : ∀ g1, Reads W (.blk g1 39 d.enc.toArray.toList :: dueRow p A c l F) A l.length 3 (l.flatMap Due.enc) := fun g1 => Reads.own mem2 hl hone
    have hbs : ∀ g1, QSpec Try.prog W 65 [.slice A l.length c, .agg d.enc.toArray, .func (.func 66) #[] #[]] (.blk g1 39 d.enc.toArray.toList :: dueRow p A c l F) (.tuple #[.int .i64 (bsN (ordD · d) l), .bool (bsB (ordD · d) l)]) := fun g1 =>
      bsearchDue W _ A _ c l rfl (hr g1) _ ⟨d, rfl⟩ _ [] (ordD · d) (fun x _ => (due_order W x d).mono (by simp)) hmono (by omega)
    have hle := bsN_le (c := (ordD · d)) (l := l)
    have hins : ∀ g1 gv, FSpec Try.prog W 67 [.slice A l.length c, .int .i64 (bsN (ordD · d) l), .slice (some ⟨gv, 0, none⟩) 1 1] (.own (some ⟨gv, 0, none⟩) 1 1 39 3 d.enc :: .blk g1 39 d.enc.toArray.toList :: dueRow p A c l F) _ := fun g1 gv =>
      (insertDue W (.own (some ⟨gv, 0, none⟩) 1 1 39 3 d.enc :: .blk g1 39 d.enc.toArray.toList :: .blk p 109 [.slice A l.length c] :: F) A l.length c (bsN (ordD · d) l) (l.flatMap Due.enc) gv d.enc mem0 (by omega) (by omega) (by omega)).perm (selS (selS (selS sel0)))
    repeat' (first
      | apply aw_seq | apply aw_region | apply aw_ret | apply aw_skip | apply aw_exit | apply aw_block | apply es_nil
      | (apply es_pure hT; (iterate 4 exact rfl)) | (apply es_skip; (iterate 3 exact rfl)) | (apply es_skip0; (iterate 2 exact rfl))
      | (apply es_i64 hT; (iterate 4 exact rfl); (iterate 2 omega))
      | (apply aw_draw [] [] hmix; decide +kernel)
      | (apply es_callQ (hs := (hfind _)); (iterate 7 exact rfl))
      | (apply es_callQ (hs := (hbs _)); (iterate 7 exact rfl))
      | (apply es_buildSlice hT; (iterate 12 exact rfl); intro gv)
      | (apply es_call (hs := (hins _ _)); (iterate 7 exact rfl); rintro _ _ ⟨A', c', rfl, rfl⟩)
      | (apply es_store hT; (iterate 6 exact rfl); exact (selS (selS (selS sel0))); (iterate 3 exact rfl); exact Nat.le_of_ble_eq_true rfl)
      | (apply es_load; (iterate 5 exact rfl); first | exact ld_blk hT rfl rfl mem0 rfl rfl | exact ld_all hT rfl rfl mem0 rfl)
      | (apply es_load; (iterate 5 exact rfl); first | exact ld_blk hT rfl rfl mem1 rfl rfl | exact ld_all hT rfl rfl mem1 rfl)
      | (apply es_load; (iterate 5 exact rfl); first | exact ld_blk hT rfl rfl mem2 rfl rfl | exact ld_all hT rfl rfl mem2 rfl)
      | (apply es_load; (iterate 5 exact rfl); first | exact ld_blk hT rfl rfl mem1 rfl rfl | exact ld_all hT rfl rfl mem1 rfl)
      | (apply es_load; (iterate 5 exact rfl); first | exact ld_blk hT rfl rfl (List.mem_cons_of_mem _ mem1) rfl rfl | exact ld_all hT rfl rfl (List.mem_cons_of_mem _ mem1) rfl)
      | (apply es_box; (iterate 5 exact rfl); intro _) | (apply es_alloc hT; (iterate 5 exact rfl); intro _)
      | (apply aw_condT; (iterate 2 exact rfl)) | (apply aw_condF; (iterate 2 exact rfl))
      | (apply es_case; exact rfl; all_goals intro hb; all_goals (try simp only [hb]); all_goals (first | replace hb := of_decide_eq_true hb | replace hb := of_decide_eq_false hb | replace hb := bne_t hb | replace hb := bne_f hb | skip); all_goals (try (exfalso; omega)))
      | (apply aw_cond; exact rfl; all_goals intro hb; all_goals (try simp only [hb]); all_goals (first | replace hb := of_decide_eq_true hb | replace hb := of_decide_eq_false hb | replace hb := bne_t hb | replace hb := bne_f hb | skip); all_goals (try (exfalso; omega))))
    apply ret1; exact rfl
    refine ⟨dueRow p A' c' (addD l d) F, ?_, by simp [hi], A', c', rfl⟩
    have e : addD l d = insD l d := by simp [addD, hi]
    have hc : (l.flatMap Due.enc).take ((bsN (ordD · d) l) * 3) ++ d.enc ++ (l.flatMap Due.enc).drop ((bsN (ordD · d) l) * 3) = (insD l d).flatMap Due.enc := by
      rw [flat_take Due.enc_len, flat_drop Due.enc_len]; simp [insD]
    rw [e, dueRow, insD_len, ← hc]
    apply dt_cons; (first | exact sel0 | exact sel1 | exact selS sel1 | exact selS (selS sel1) | exact selS (selS (selS sel1)) | exact selS (selS (selS (selS sel1))) | exact selS (selS (selS (selS (selS sel1)))) | exact selS (selS (selS (selS (selS (selS sel1))))))
    apply dt_cons; (first | exact sel0 | exact sel1 | exact selS sel1 | exact selS (selS sel1) | exact selS (selS (selS sel1)) | exact selS (selS (selS (selS sel1))) | exact selS (selS (selS (selS (selS sel1)))) | exact selS (selS (selS (selS (selS (selS sel1))))))
    (repeat (first | exact dt_end | apply dt_skip))
  · have hd : decide (idxOf (hasD d.kind d.id) l ≥ 0) = true := by simp; omega
    repeat' (first
      | apply aw_seq | apply aw_region | apply aw_ret | apply aw_skip | apply aw_exit | apply aw_block | apply es_nil
      | (apply es_pure hT; (iterate 4 exact rfl)) | (apply es_skip; (iterate 3 exact rfl)) | (apply es_skip0; (iterate 2 exact rfl))
      | (apply es_i64 hT; (iterate 4 exact rfl); (iterate 2 omega))
      | (apply aw_draw [] [] hmix; decide +kernel)
      | (apply es_callQ (hs := (hfind _)); (iterate 7 exact rfl))
      | (apply es_load; (iterate 5 exact rfl); first | exact ld_blk hT rfl rfl mem0 rfl rfl | exact ld_all hT rfl rfl mem0 rfl)
      | (apply es_load; (iterate 5 exact rfl); first | exact ld_blk hT rfl rfl mem1 rfl rfl | exact ld_all hT rfl rfl mem1 rfl)
      | (apply es_load; (iterate 5 exact rfl); first | exact ld_blk hT rfl rfl mem2 rfl rfl | exact ld_all hT rfl rfl mem2 rfl)
      | (apply es_load; (iterate 5 exact rfl); first | exact ld_blk hT rfl rfl mem1 rfl rfl | exact ld_all hT rfl rfl mem1 rfl)
      | (apply es_load; (iterate 5 exact rfl); first | exact ld_blk hT rfl rfl (List.mem_cons_of_mem _ mem1) rfl rfl | exact ld_all hT rfl rfl (List.mem_cons_of_mem _ mem1) rfl)
      | (apply es_box; (iterate 5 exact rfl); intro _) | (apply es_alloc hT; (iterate 5 exact rfl); intro _)
      | (apply aw_condT; (iterate 2 exact rfl)) | (apply aw_condF; (iterate 2 exact rfl))
      | (apply es_case; exact rfl; all_goals intro hb; all_goals (try simp only [hb]); all_goals (first | replace hb := of_decide_eq_true hb | replace hb := of_decide_eq_false hb | replace hb := bne_t hb | replace hb := bne_f hb | skip); all_goals (try (exfalso; omega)))
      | (apply aw_cond; exact rfl; all_goals intro hb; all_goals (try simp only [hb]); all_goals (first | replace hb := of_decide_eq_true hb | replace hb := of_decide_eq_false hb | replace hb := bne_t hb | replace hb := bne_f hb | skip); all_goals (try (exfalso; omega))))
    apply ret1; exact rfl
    have e : addD l d = l := by simp [addD, hi]
    exact ⟨dueRow p A c l F, dt_skip dt_end, by simp [hi], A, c, by rw [e]⟩

def dropD (l : List Due) (kind id : Int) : List Due := if idxOf (hasD kind id) l < 0 then l else l.eraseIdx (idxOf (hasD kind id) l).toNat

theorem due_Drop (W : World) (F : List Chunk) (p : Nat) (A : Option Addr) (c : Nat) (l : List Due) (kind id : Int) (hb : l.length ≤ 1000000) :
    FSpec Try.prog W 22 [.pointer (some ⟨p, 0, none⟩), .int .i64 kind, .int .i64 id] (dueRow p A c l F) (fun v h' => v = .bool (decide (¬ idxOf (hasD kind id) l < 0)) ∧ ∃ A' c', h' = dueRow p A' c' (dropD l kind id) F) := by
  refine FSpec.dropTo ?_
  refine spec_body Try.func22 rfl rfl Try.results22 Try.ntmps22 rfl rfl ?_
  have hfind : QSpec Try.prog W 64 [.pointer (some ⟨p, 0, none⟩), .int .i64 kind, .int .i64 id] (dueRow p A c l F) (.int .i64 (idxOf (hasD kind id) l)) :=
    (due_find W p A c l kind id hb).mono (by intro c hc; simp only [dueRow, List.mem_cons, List.not_mem_nil, or_false] at hc ⊢; rcases hc with rfl | rfl <;> simp)
  have hlt := idxOf_lt (p := hasD kind id) (l := l)
  by_cases hi : idxOf (hasD kind id) l < 0
  · have hd : decide (idxOf (hasD kind id) l < 0) = true := by simp; omega
    repeat' (first
      | apply aw_seq | apply aw_region | apply aw_ret | apply aw_skip | apply aw_exit | apply aw_block | apply es_nil
      | (apply es_pure hT; (iterate 4 exact rfl)) | (apply es_skip; (iterate 3 exact rfl)) | (apply es_skip0; (iterate 2 exact rfl))
      | (apply es_i64 hT; (iterate 4 exact rfl); (iterate 2 omega))
      | (apply aw_draw [] [] hmix; decide +kernel)
      | (apply es_callQ (hs := hfind); (iterate 7 exact rfl))
      | (apply es_load; (iterate 5 exact rfl); first | exact ld_blk hT rfl rfl mem0 rfl rfl | exact ld_all hT rfl rfl mem0 rfl)
      | (apply es_load; (iterate 5 exact rfl); first | exact ld_blk hT rfl rfl mem1 rfl rfl | exact ld_all hT rfl rfl mem1 rfl)
      | (apply es_load; (iterate 5 exact rfl); first | exact ld_blk hT rfl rfl mem2 rfl rfl | exact ld_all hT rfl rfl mem2 rfl)
      | (apply es_load; (iterate 5 exact rfl); first | exact ld_blk hT rfl rfl mem0 rfl rfl | exact ld_all hT rfl rfl mem0 rfl)
      | (apply es_load; (iterate 5 exact rfl); first | exact ld_blk hT rfl rfl (List.mem_cons_of_mem _ mem0) rfl rfl | exact ld_all hT rfl rfl (List.mem_cons_of_mem _ mem0) rfl)
      | (apply es_box; (iterate 5 exact rfl); intro _) | (apply es_alloc hT; (iterate 5 exact rfl); intro _)
      | (apply aw_condT; (iterate 2 exact rfl)) | (apply aw_condF; (iterate 2 exact rfl))
      | (apply es_case; exact rfl; all_goals intro hb; all_goals (try simp only [hb]); all_goals (first | replace hb := of_decide_eq_true hb | replace hb := of_decide_eq_false hb | replace hb := bne_t hb | replace hb := bne_f hb | skip); all_goals (try (exfalso; omega)))
      | (apply aw_cond; exact rfl; all_goals intro hb; all_goals (try simp only [hb]); all_goals (first | replace hb := of_decide_eq_true hb | replace hb := of_decide_eq_false hb | replace hb := bne_t hb | replace hb := bne_f hb | skip); all_goals (try (exfalso; omega))))
    apply ret1; exact rfl
    have e : dropD l kind id = l := by simp [dropD, hi]
    exact ⟨dueRow p A c l F, dt_end, by simp [hi], A, c, by rw [e]⟩
  · have hd : decide (idxOf (hasD kind id) l < 0) = false := by simp; omega
    have hdel := (deleteDue W (.blk p 109 [.slice A l.length c] :: F) A l.length c (idxOf (hasD kind id) l) (idxOf (hasD kind id) l + 1) (l.flatMap Due.enc) (by omega) (by omega) (by omega)).perm (h' := dueRow p A c l F) (selS sel0)
    repeat' (first
      | apply aw_seq | apply aw_region | apply aw_ret | apply aw_skip | apply aw_exit | apply aw_block | apply es_nil
      | (apply es_pure hT; (iterate 4 exact rfl)) | (apply es_skip; (iterate 3 exact rfl)) | (apply es_skip0; (iterate 2 exact rfl))
      | (apply es_i64 hT; (iterate 4 exact rfl); (iterate 2 omega))
      | (apply aw_draw [] [] hmix; decide +kernel)
      | (apply es_callQ (hs := hfind); (iterate 7 exact rfl))
      | (apply es_call (hs := hdel); (iterate 7 exact rfl); rintro _ _ ⟨rfl, rfl⟩)
      | (apply es_store hT; (iterate 6 exact rfl); exact (selS sel0); (iterate 3 exact rfl); exact Nat.le_of_ble_eq_true rfl)
      | (apply es_load; (iterate 5 exact rfl); first | exact ld_blk hT rfl rfl mem0 rfl rfl | exact ld_all hT rfl rfl mem0 rfl)
      | (apply es_load; (iterate 5 exact rfl); first | exact ld_blk hT rfl rfl mem1 rfl rfl | exact ld_all hT rfl rfl mem1 rfl)
      | (apply es_load; (iterate 5 exact rfl); first | exact ld_blk hT rfl rfl mem2 rfl rfl | exact ld_all hT rfl rfl mem2 rfl)
      | (apply es_load; (iterate 5 exact rfl); first | exact ld_blk hT rfl rfl mem0 rfl rfl | exact ld_all hT rfl rfl mem0 rfl)
      | (apply es_load; (iterate 5 exact rfl); first | exact ld_blk hT rfl rfl (List.mem_cons_of_mem _ mem0) rfl rfl | exact ld_all hT rfl rfl (List.mem_cons_of_mem _ mem0) rfl)
      | (apply es_box; (iterate 5 exact rfl); intro _) | (apply es_alloc hT; (iterate 5 exact rfl); intro _)
      | (apply aw_condT; (iterate 2 exact rfl)) | (apply aw_condF; (iterate 2 exact rfl))
      | (apply es_case; exact rfl; all_goals intro hb; all_goals (try simp only [hb]); all_goals (first | replace hb := of_decide_eq_true hb | replace hb := of_decide_eq_false hb | replace hb := bne_t hb | replace hb := bne_f hb | skip); all_goals (try (exfalso; omega)))
      | (apply aw_cond; exact rfl; all_goals intro hb; all_goals (try simp only [hb]); all_goals (first | replace hb := of_decide_eq_true hb | replace hb := of_decide_eq_false hb | replace hb := bne_t hb | replace hb := bne_f hb | skip); all_goals (try (exfalso; omega))))
    apply ret1; exact rfl
    refine ⟨dueRow p A c (dropD l kind id) F, ?_, by simp [hi], A, c, rfl⟩
    obtain ⟨k, hk⟩ : ∃ k : Nat, idxOf (hasD kind id) l = k := ⟨(idxOf (hasD kind id) l).toNat, by omega⟩
    have e : dropD l kind id = l.take k ++ l.drop (k + 1) := by rw [dropD, if_neg hi, hk]; simp [List.eraseIdx_eq_take_drop_succ]
    have hc : (l.flatMap Due.enc).take (k * 3) ++ (l.flatMap Due.enc).drop ((k + 1) * 3) = (l.take k ++ l.drop (k + 1)).flatMap Due.enc := by
      rw [flat_take Due.enc_len, flat_drop Due.enc_len]; simp
    have hlen : (l.take k ++ l.drop (k + 1)).length = l.length - (((k : Int) + 1).toNat - (k : Int).toNat) := by simp; omega
    rw [e, dueRow, hlen, ← hc, hk]
    apply dt_cons; (first | exact sel0 | exact sel1 | exact selS sel1 | exact selS (selS sel1) | exact selS (selS (selS sel1)) | exact selS (selS (selS (selS sel1))) | exact selS (selS (selS (selS (selS sel1)))) | exact selS (selS (selS (selS (selS (selS sel1))))))
    apply dt_cons; (first | exact sel0 | exact sel1 | exact selS sel1 | exact selS (selS sel1) | exact selS (selS (selS sel1)) | exact selS (selS (selS (selS sel1))) | exact selS (selS (selS (selS (selS sel1)))) | exact selS (selS (selS (selS (selS (selS sel1))))))
    (repeat (first | exact dt_end | apply dt_skip))

def nextD (l : List Due) : Value := match l with
  | [] => .tuple #[.int .i64 0, .bool false]
  | x :: _ => .tuple #[.int .i64 x.tick, .bool true]

theorem due_Next (W : World) (p : Nat) (A : Option Addr) (c : Nat) (l : List Due) (hb : l.length ≤ 1000000) :
    QSpec Try.prog W 29 [.pointer (some ⟨p, 0, none⟩)] (dueRow p A c l []) (nextD l) := by
  refine QSpec.ofD (fun h' hs => ?_)
  have m1 := hs _ mem0
  have m2 := hs _ mem1
  refine spec_body Try.func29 rfl rfl Try.results29 Try.ntmps29 rfl rfl ?_
  refine aw_fact m2 (fun hl hnc hcc hsome hnone hone => ?_)
  have hr := Reads.own (W := W) m2 hl hone
  cases l with
  | nil =>
    have he : ((([] : List Due).length : Int) == 0) = true := rfl
    repeat' (first
      | apply aw_seq | apply aw_region | apply aw_ret | apply aw_skip | apply aw_exit | apply aw_block | apply es_nil
      | (apply es_pure hT; (iterate 4 exact rfl)) | (apply es_skip; (iterate 3 exact rfl)) | (apply es_skip0; (iterate 2 exact rfl))
      | (apply es_i64 hT; (iterate 4 exact rfl); (iterate 2 omega))
      | (apply aw_draw [] [] hmix; decide +kernel)
      | (apply es_load; (iterate 5 exact rfl); first | exact ld_blk hT rfl rfl mem0 rfl rfl | exact ld_all hT rfl rfl mem0 rfl)
      | (apply es_load; (iterate 5 exact rfl); first | exact ld_blk hT rfl rfl mem1 rfl rfl | exact ld_all hT rfl rfl mem1 rfl)
      | (apply es_load; (iterate 5 exact rfl); first | exact ld_blk hT rfl rfl mem2 rfl rfl | exact ld_all hT rfl rfl mem2 rfl)
      | (apply es_load; (iterate 5 exact rfl); first | exact ld_blk hT rfl rfl m1 rfl rfl | exact ld_all hT rfl rfl m1 rfl)
      | (apply es_load; (iterate 5 exact rfl); first | exact ld_blk hT rfl rfl (List.mem_cons_of_mem _ m1) rfl rfl | exact ld_all hT rfl rfl (List.mem_cons_of_mem _ m1) rfl)
      | (apply es_box; (iterate 5 exact rfl); intro _) | (apply es_alloc hT; (iterate 5 exact rfl); intro _)
      | (apply aw_condT; (iterate 2 exact rfl)) | (apply aw_condF; (iterate 2 exact rfl))
      | (apply es_case; exact rfl; all_goals intro hb; all_goals (try simp only [hb]); all_goals (first | replace hb := of_decide_eq_true hb | replace hb := of_decide_eq_false hb | replace hb := bne_t hb | replace hb := bne_f hb | skip); all_goals (try (exfalso; omega)))
      | (apply aw_cond; exact rfl; all_goals intro hb; all_goals (try simp only [hb]); all_goals (first | replace hb := of_decide_eq_true hb | replace hb := of_decide_eq_false hb | replace hb := bne_t hb | replace hb := bne_f hb | skip); all_goals (try (exfalso; omega))))
    apply ret2; exact rfl; exact rfl
    exact ⟨rfl, dt_end⟩
  | cons x l =>
    have he : (((x :: l).length : Int) == 0) = false := by simp; omega
    have hlen : 0 < (x :: l).length := by simp
    obtain ⟨g, hg⟩ := hsome hlen
    have hA : A.isSome = true := by rw [hg]; rfl
    repeat' (first
      | apply aw_seq | apply aw_region | apply aw_ret | apply aw_skip | apply aw_exit | apply aw_block | apply es_nil
      | (apply es_pure hT; (iterate 4 exact rfl)) | (apply es_skip; (iterate 3 exact rfl)) | (apply es_skip0; (iterate 2 exact rfl))
      | (apply es_i64 hT; (iterate 4 exact rfl); (iterate 2 omega))
      | (apply aw_draw [] [] hmix; decide +kernel)
      | (apply es_idx hT; (iterate 8 exact rfl); (iterate 2 omega); exact hA)
      | (apply es_load; (iterate 5 exact rfl); exact ld_fld hT rfl rfl hr Due.enc_len (adr_add _ _ _) (rfl : (x :: l)[0]? = some x) (by decide) rfl)
      | (apply es_load; (iterate 5 exact rfl); first | exact ld_blk hT rfl rfl mem0 rfl rfl | exact ld_all hT rfl rfl mem0 rfl)
      | (apply es_load; (iterate 5 exact rfl); first | exact ld_blk hT rfl rfl mem1 rfl rfl | exact ld_all hT rfl rfl mem1 rfl)
      | (apply es_load; (iterate 5 exact rfl); first | exact ld_blk hT rfl rfl mem2 rfl rfl | exact ld_all hT rfl rfl mem2 rfl)
      | (apply es_load; (iterate 5 exact rfl); first | exact ld_blk hT rfl rfl m1 rfl rfl | exact ld_all hT rfl rfl m1 rfl)
      | (apply es_load; (iterate 5 exact rfl); first | exact ld_blk hT rfl rfl (List.mem_cons_of_mem _ m1) rfl rfl | exact ld_all hT rfl rfl (List.mem_cons_of_mem _ m1) rfl)
      | (apply es_box; (iterate 5 exact rfl); intro _) | (apply es_alloc hT; (iterate 5 exact rfl); intro _)
      | (apply aw_condT; (iterate 2 exact rfl)) | (apply aw_condF; (iterate 2 exact rfl))
      | (apply es_case; exact rfl; all_goals intro hb; all_goals (try simp only [hb]); all_goals (first | replace hb := of_decide_eq_true hb | replace hb := of_decide_eq_false hb | replace hb := bne_t hb | replace hb := bne_f hb | skip); all_goals (try (exfalso; omega)))
      | (apply aw_cond; exact rfl; all_goals intro hb; all_goals (try simp only [hb]); all_goals (first | replace hb := of_decide_eq_true hb | replace hb := of_decide_eq_false hb | replace hb := bne_t hb | replace hb := bne_f hb | skip); all_goals (try (exfalso; omega))))
    apply ret2; exact rfl; exact rfl
    exact ⟨rfl, dt_end⟩

theorem due_NextNil (W : World) : QSpec Try.prog W 29 [.pointer none] [] (.tuple #[.int .i64 0, .bool false]) := by
  refine QSpec.ofD (fun h' hs => ?_)
  refine spec_body Try.func29 rfl rfl Try.results29 Try.ntmps29 rfl rfl ?_
  repeat' (first
    | apply aw_seq | apply aw_region | apply aw_ret | apply aw_skip | apply aw_exit | apply aw_block | apply es_nil
    | (apply es_pure hT; (iterate 4 exact rfl)) | (apply es_skip; (iterate 3 exact rfl)) | (apply es_skip0; (iterate 2 exact rfl))
    | (apply es_i64 hT; (iterate 4 exact rfl); (iterate 2 omega))
    | (apply aw_draw [] [] hmix; decide +kernel)
    | (apply es_load; (iterate 5 exact rfl); first | exact ld_blk hT rfl rfl mem0 rfl rfl | exact ld_all hT rfl rfl mem0 rfl)
    | (apply es_load; (iterate 5 exact rfl); first | exact ld_blk hT rfl rfl mem1 rfl rfl | exact ld_all hT rfl rfl mem1 rfl)
    | (apply es_load; (iterate 5 exact rfl); first | exact ld_blk hT rfl rfl mem2 rfl rfl | exact ld_all hT rfl rfl mem2 rfl)
    | (apply es_box; (iterate 5 exact rfl); intro _) | (apply es_alloc hT; (iterate 5 exact rfl); intro _)
    | (apply aw_condT; (iterate 2 exact rfl)) | (apply aw_condF; (iterate 2 exact rfl))
    | (apply es_case; exact rfl; all_goals intro hb; all_goals (try simp only [hb]); all_goals (first | replace hb := of_decide_eq_true hb | replace hb := of_decide_eq_false hb | replace hb := bne_t hb | replace hb := bne_f hb | skip); all_goals (try (exfalso; omega)))
    | (apply aw_cond; exact rfl; all_goals intro hb; all_goals (try simp only [hb]); all_goals (first | replace hb := of_decide_eq_true hb | replace hb := of_decide_eq_false hb | replace hb := bne_t hb | replace hb := bne_f hb | skip); all_goals (try (exfalso; omega))))
  apply ret2; exact rfl; exact rfl
  exact ⟨rfl, dt_end⟩

def takeN (l : List Due) (tick : Int) : Nat := (l.takeWhile fun d => decide (d.tick ≤ tick)).length
theorem takeN_le (l : List Due) (tick : Int) : takeN l tick ≤ l.length := (List.takeWhile_sublist _).length_le
theorem takeN_eq {tick : Int} : ∀ {l : List Due} {i : Nat}, i ≤ l.length → (∀ (k : Nat) y, k < i → l[k]? = some y → y.tick ≤ tick) → (∀ y, l[i]? = some y → ¬ y.tick ≤ tick) → takeN l tick = i
  | [], i, h, _, _ => by simp at h; subst h; rfl
  | x :: l, 0, _, _, h2 => by
    have := h2 x rfl
    simp [takeN, List.takeWhile_cons, this]
  | x :: l, i + 1, h, h1, h2 => by
    have h0 := h1 0 x (by omega) rfl
    have ih := takeN_eq (tick := tick) (l := l) (i := i) (by simpa using h) (fun k y hk hy => h1 (k + 1) y (by omega) (by simpa using hy)) (fun y hy => h2 y (by simpa using hy))
    unfold takeN at *
    simp [List.takeWhile_cons, h0, ih]

theorem due_Take (W : World) (F : List Chunk) (p : Nat) (A : Option Addr) (c : Nat) (l : List Due) (tick : Int) (hb : l.length ≤ 1000000) :
    FSpec Try.prog W 23 [.pointer (some ⟨p, 0, none⟩), .int .i64 tick] (dueRow p A c l F)
      (fun v h' => ∃ A1 c1 A2 c2, v = .slice A1 (takeN l tick) c1 ∧ h' = .own A1 (takeN l tick) c1 39 3 ((l.take (takeN l tick)).flatMap Due.enc) :: dueRow p A2 c2 (l.drop (takeN l tick)) F) := by
  refine FSpec.dropTo ?_
  refine spec_body Try.func23 rfl rfl Try.results23 Try.ntmps23 rfl rfl ?_
  refine aw_fact (h := dueRow p A c l F) mem1 (fun hl hnc hcc hsome hnone hone => ?_)
  have hr : Reads W (dueRow p A c l F) A l.length 3 (l.flatMap Due.enc) := Reads.own mem1 hl hone
  repeat' (first
    | apply aw_seq | apply aw_region | apply aw_ret | apply aw_skip | apply aw_exit | apply aw_block | apply es_nil
    | (apply es_pure hT; (iterate 4 exact rfl)) | (apply es_skip; (iterate 3 exact rfl)) | (apply es_skip0; (iterate 2 exact rfl))
    | (apply es_i64 hT; (iterate 4 exact rfl); (iterate 2 omega))
    | (apply aw_draw [] [] hmix; decide +kernel)
    | (apply es_load; (iterate 5 exact rfl); first | exact ld_blk hT rfl rfl mem0 rfl rfl | exact ld_all hT rfl rfl mem0 rfl)
    | (apply es_load; (iterate 5 exact rfl); first | exact ld_blk hT rfl rfl mem1 rfl rfl | exact ld_all hT rfl rfl mem1 rfl)
    | (apply es_load; (iterate 5 exact rfl); first | exact ld_blk hT rfl rfl mem2 rfl rfl | exact ld_all hT rfl rfl mem2 rfl)
    | (apply es_box; (iterate 5 exact rfl); intro _) | (apply es_alloc hT; (iterate 5 exact rfl); intro _)
    | (apply aw_condT; (iterate 2 exact rfl)) | (apply aw_condF; (iterate 2 exact rfl))
    | (apply es_case; exact rfl; all_goals intro hb; all_goals (try simp only [hb]); all_goals (first | replace hb := of_decide_eq_true hb | replace hb := of_decide_eq_false hb | replace hb := bne_t hb | replace hb := bne_f hb | skip); all_goals (try (exfalso; omega)))
    | (apply aw_cond; exact rfl; all_goals intro hb; all_goals (try simp only [hb]); all_goals (first | replace hb := of_decide_eq_true hb | replace hb := of_decide_eq_false hb | replace hb := bne_t hb | replace hb := bne_f hb | skip); all_goals (try (exfalso; omega))))
  refine aw_loop (α := Nat) (E := fun k => [(0, .pointer (some ⟨p, 0, none⟩)), (1, .int .i64 tick), (5, .int .i64 k)]) (H := fun _ => dueRow p A c l F) (μ := fun k => l.length - k)
    (S := fun k => k ≤ l.length ∧ ∀ (j : Nat) y, j < k → l[j]? = some y → y.tick ≤ tick) 0 (J := []) ⟨Nat.zero_le _, fun j y hj => by omega⟩ ⟨rfl, rfl, rfl, trivial⟩ (List.Perm.refl _) ?_
  rintro k ⟨hk1, hk2⟩
  have hclone : ∀ n : Nat, n ≤ l.length → FSpec Try.prog W 69 [.slice A n c] (dueRow p A c l F) _ := fun n hn => cloneDue W (dueRow p A c l F) A n c _ (hr.take hn) (by omega)
  have fin : takeN l tick = k → ∀ A1 c1 A2, DropTo (.blk p 109 [.slice A2 (l.length - k) c] :: .own A2 (l.length - k) c 39 3 ([] ++ (l.flatMap Due.enc).drop (k * 3)) :: .own A1 k c1 39 3 ((l.flatMap Due.enc).take (k * 3)) :: F)
      (.own A1 (takeN l tick) c1 39 3 ((l.take (takeN l tick)).flatMap Due.enc) :: dueRow p A2 c (l.drop (takeN l tick)) F) := fun hkk A1 c1 A2 => by
    rw [hkk, dueRow, List.length_drop, List.nil_append, flat_take Due.enc_len, flat_drop Due.enc_len]
    apply dt_cons; (first | exact sel0 | exact sel1 | exact selS sel1 | exact selS (selS sel1) | exact selS (selS (selS sel1)) | exact selS (selS (selS (selS sel1))) | exact selS (selS (selS (selS (selS sel1)))) | exact selS (selS (selS (selS (selS (selS sel1))))))
    apply dt_cons; (first | exact sel0 | exact sel1 | exact selS sel1 | exact selS (selS sel1) | exact selS (selS (selS sel1)) | exact selS (selS (selS (selS sel1))) | exact selS (selS (selS (selS (selS sel1)))) | exact selS (selS (selS (selS (selS (selS sel1))))))
    apply dt_cons; (first | exact sel0 | exact sel1 | exact selS sel1 | exact selS (selS sel1) | exact selS (selS (selS sel1)) | exact selS (selS (selS (selS sel1))) | exact selS (selS (selS (selS (selS sel1)))) | exact selS (selS (selS (selS (selS (selS sel1))))))
    exact dt_end
  have hdel : ∀ A1 c1, FSpec Try.prog W 68 _ (.own A1 (k : Int).toNat c1 39 3 ((l.flatMap Due.enc).take ((k : Int).toNat * 3)) :: dueRow p A c l F) _ := fun A1 c1 =>
    (deleteDue W (.own A1 (k : Int).toNat c1 39 3 ((l.flatMap Due.enc).take ((k : Int).toNat * 3)) :: .blk p 109 [.slice A l.length c] :: F) A l.length c 0 k (l.flatMap Due.enc) (by omega) (by omega) (by omega)).perm (selS (selS sel0))
  by_cases hlt : k < l.length
  · obtain ⟨x, hx⟩ : ∃ x, l[k]? = some x := ⟨l[k]'(by omega), List.getElem?_eq_getElem (by omega)⟩
    have hx2 : l[(k : Int).toNat]? = some x := by simpa using hx
    obtain ⟨g, hg⟩ := hsome (by omega)
    have hA : A.isSome = true := by rw [hg]; rfl
    have hd : decide ((k : Int) < (l.length : Int)) = true := by simp; omega
    by_cases hx0 : x.tick ≤ tick
    · have hd2 : decide (x.tick ≤ tick) = true := by simpa using hx0
      repeat' (first
        | apply aw_seq | apply aw_region | apply aw_ret | apply aw_skip | apply aw_exit | apply aw_block | apply es_nil
        | (apply es_pure hT; (iterate 4 exact rfl)) | (apply es_skip; (iterate 3 exact rfl)) | (apply es_skip0; (iterate 2 exact rfl))
        | (apply es_i64 hT; (iterate 4 exact rfl); (iterate 2 omega))
        | (apply aw_draw [] [] hmix; decide +kernel)
        | (apply es_idx hT; (iterate 8 exact rfl); (iterate 2 omega); exact hA)
        | (apply es_load; (iterate 5 exact rfl); exact ld_fld hT rfl rfl hr Due.enc_len (adr_add _ _ _) hx2 (by decide) rfl)
        | (apply es_load; (iterate 5 exact rfl); first | exact ld_blk hT rfl rfl mem0 rfl rfl | exact ld_all hT rfl rfl mem0 rfl)
        | (apply es_load; (iterate 5 exact rfl); first | exact ld_blk hT rfl rfl mem1 rfl rfl | exact ld_all hT rfl rfl mem1 rfl)
        | (apply es_load; (iterate 5 exact rfl); first | exact ld_blk hT rfl rfl mem2 rfl rfl | exact ld_all hT rfl rfl mem2 rfl)
        | (apply es_load; (iterate 5 exact rfl); first | exact ld_blk hT rfl rfl mem0 rfl rfl | exact ld_all hT rfl rfl mem0 rfl)
        | (apply es_load; (iterate 5 exact rfl); first | exact ld_blk hT rfl rfl (List.mem_cons_of_mem _ mem0) rfl rfl | exact ld_all hT rfl rfl (List.mem_cons_of_mem _ mem0) rfl)
        | (apply es_box; (iterate 5 exact rfl); intro _) | (apply es_alloc hT; (iterate 5 exact rfl); intro _)
        | (apply aw_condT; (iterate 2 exact rfl)) | (apply aw_condF; (iterate 2 exact rfl))
        | (apply es_case; exact rfl; all_goals intro hb; all_goals (try simp only [hb]); all_goals (first | replace hb := of_decide_eq_true hb | replace hb := of_decide_eq_false hb | replace hb := bne_t hb | replace hb := bne_f hb | skip); all_goals (try (exfalso; omega)))
        | (apply aw_cond; exact rfl; all_goals intro hb; all_goals (try simp only [hb]); all_goals (first | replace hb := of_decide_eq_true hb | replace hb := of_decide_eq_false hb | replace hb := bne_t hb | replace hb := bne_f hb | skip); all_goals (try (exfalso; omega))))
      exact ⟨k + 1, [], by dsimp only; omega, ⟨by omega, fun j y hj hy => by
        by_cases hjk : j = k
        · subst hjk; rw [hx] at hy; cases hy; exact hx0
        · exact hk2 j y (by omega) hy⟩, ⟨rfl, rfl, rfl, trivial⟩, List.Perm.refl _⟩
    · have hd2 : decide (x.tick ≤ tick) = false := by simpa using hx0
      repeat' (first
        | apply aw_seq | apply aw_region | apply aw_ret | apply aw_skip | apply aw_exit | apply aw_block | apply es_nil
        | (apply es_pure hT; (iterate 4 exact rfl)) | (apply es_skip; (iterate 3 exact rfl)) | (apply es_skip0; (iterate 2 exact rfl))
        | (apply es_i64 hT; (iterate 4 exact rfl); (iterate 2 omega))
        | (apply aw_draw [] [] hmix; decide +kernel)
        | (apply es_idx hT; (iterate 8 exact rfl); (iterate 2 omega); exact hA)
        | (apply es_load; (iterate 5 exact rfl); exact ld_fld hT rfl rfl hr Due.enc_len (adr_add _ _ _) hx2 (by decide) rfl)
        | (apply es_sliceTo hT; (iterate 8 exact rfl); (iterate 2 omega))
        | (apply es_call (hs := (hclone _ (by omega))); (iterate 7 exact rfl); rintro _ _ ⟨A1, c1, rfl, rfl⟩)
        | (apply es_call (hs := (hdel _ _)); (iterate 7 exact rfl); rintro _ _ ⟨rfl, rfl⟩)
        | (apply es_store hT; (iterate 6 exact rfl); exact (selS (selS sel0)); (iterate 3 exact rfl); exact Nat.le_of_ble_eq_true rfl)
        | (apply es_load; (iterate 5 exact rfl); first | exact ld_blk hT rfl rfl mem0 rfl rfl | exact ld_all hT rfl rfl mem0 rfl)
        | (apply es_load; (iterate 5 exact rfl); first | exact ld_blk hT rfl rfl mem1 rfl rfl | exact ld_all hT rfl rfl mem1 rfl)
        | (apply es_load; (iterate 5 exact rfl); first | exact ld_blk hT rfl rfl mem2 rfl rfl | exact ld_all hT rfl rfl mem2 rfl)
        | (apply es_load; (iterate 5 exact rfl); first | exact ld_blk hT rfl rfl mem0 rfl rfl | exact ld_all hT rfl rfl mem0 rfl)
        | (apply es_load; (iterate 5 exact rfl); first | exact ld_blk hT rfl rfl (List.mem_cons_of_mem _ mem0) rfl rfl | exact ld_all hT rfl rfl (List.mem_cons_of_mem _ mem0) rfl)
        | (apply es_box; (iterate 5 exact rfl); intro _) | (apply es_alloc hT; (iterate 5 exact rfl); intro _)
        | (apply aw_condT; (iterate 2 exact rfl)) | (apply aw_condF; (iterate 2 exact rfl))
        | (apply es_case; exact rfl; all_goals intro hb; all_goals (try simp only [hb]); all_goals (first | replace hb := of_decide_eq_true hb | replace hb := of_decide_eq_false hb | replace hb := bne_t hb | replace hb := bne_f hb | skip); all_goals (try (exfalso; omega)))
        | (apply aw_cond; exact rfl; all_goals intro hb; all_goals (try simp only [hb]); all_goals (first | replace hb := of_decide_eq_true hb | replace hb := of_decide_eq_false hb | replace hb := bne_t hb | replace hb := bne_f hb | skip); all_goals (try (exfalso; omega))))
      have hkk : takeN l tick = k := takeN_eq hk1 hk2 (fun y hy => by rw [hx] at hy; cases hy; exact hx0)
      have hval : Value.slice A1 ((k : Int).toNat) c1 = .slice A1 (takeN l tick) c1 := by rw [hkk]; simp
      apply ret1; exact rfl
      refine ⟨_, fin hkk A1 c1 A, A1, c1, A, c, ?_, rfl⟩
      exact hval
  · have hd : decide ((k : Int) < (l.length : Int)) = false := by simp; omega
    repeat' (first
      | apply aw_seq | apply aw_region | apply aw_ret | apply aw_skip | apply aw_exit | apply aw_block | apply es_nil
      | (apply es_pure hT; (iterate 4 exact rfl)) | (apply es_skip; (iterate 3 exact rfl)) | (apply es_skip0; (iterate 2 exact rfl))
      | (apply es_i64 hT; (iterate 4 exact rfl); (iterate 2 omega))
      | (apply aw_draw [] [] hmix; decide +kernel)
      | (apply es_sliceTo hT; (iterate 8 exact rfl); (iterate 2 omega))
      | (apply es_call (hs := (hclone _ (by omega))); (iterate 7 exact rfl); rintro _ _ ⟨A1, c1, rfl, rfl⟩)
      | (apply es_call (hs := (hdel _ _)); (iterate 7 exact rfl); rintro _ _ ⟨rfl, rfl⟩)
      | (apply es_store hT; (iterate 6 exact rfl); exact (selS (selS sel0)); (iterate 3 exact rfl); exact Nat.le_of_ble_eq_true rfl)
      | (apply es_load; (iterate 5 exact rfl); first | exact ld_blk hT rfl rfl mem0 rfl rfl | exact ld_all hT rfl rfl mem0 rfl)
      | (apply es_load; (iterate 5 exact rfl); first | exact ld_blk hT rfl rfl mem1 rfl rfl | exact ld_all hT rfl rfl mem1 rfl)
      | (apply es_load; (iterate 5 exact rfl); first | exact ld_blk hT rfl rfl mem2 rfl rfl | exact ld_all hT rfl rfl mem2 rfl)
      | (apply es_load; (iterate 5 exact rfl); first | exact ld_blk hT rfl rfl mem0 rfl rfl | exact ld_all hT rfl rfl mem0 rfl)
      | (apply es_load; (iterate 5 exact rfl); first | exact ld_blk hT rfl rfl (List.mem_cons_of_mem _ mem0) rfl rfl | exact ld_all hT rfl rfl (List.mem_cons_of_mem _ mem0) rfl)
      | (apply es_box; (iterate 5 exact rfl); intro _) | (apply es_alloc hT; (iterate 5 exact rfl); intro _)
      | (apply aw_condT; (iterate 2 exact rfl)) | (apply aw_condF; (iterate 2 exact rfl))
      | (apply es_case; exact rfl; all_goals intro hb; all_goals (try simp only [hb]); all_goals (first | replace hb := of_decide_eq_true hb | replace hb := of_decide_eq_false hb | replace hb := bne_t hb | replace hb := bne_f hb | skip); all_goals (try (exfalso; omega)))
      | (apply aw_cond; exact rfl; all_goals intro hb; all_goals (try simp only [hb]); all_goals (first | replace hb := of_decide_eq_true hb | replace hb := of_decide_eq_false hb | replace hb := bne_t hb | replace hb := bne_f hb | skip); all_goals (try (exfalso; omega))))
    have hkk : takeN l tick = k := takeN_eq hk1 hk2 (fun y hy => by rw [List.getElem?_eq_none (by omega)] at hy; cases hy)
    have hval : Value.slice A1 ((k : Int).toNat) c1 = .slice A1 (takeN l tick) c1 := by rw [hkk]; simp
    apply ret1; exact rfl
    refine ⟨_, fin hkk A1 c1 A, A1, c1, A, c, ?_, rfl⟩
    exact hval

theorem due_AddNil (W : World) (d : Due) : QSpec Try.prog W 20 [.pointer none, .agg d.enc.toArray] [] (.bool false) := by
  refine QSpec.ofD (fun h' hs => ?_)
  refine spec_body Try.func20 rfl rfl Try.results20 Try.ntmps20 rfl rfl ?_
  repeat' (first
    | apply aw_seq | apply aw_region | apply aw_ret | apply aw_skip | apply aw_exit | apply aw_block | apply es_nil
    | (apply es_pure hT; (iterate 4 exact rfl)) | (apply es_skip; (iterate 3 exact rfl)) | (apply es_skip0; (iterate 2 exact rfl))
    | (apply es_i64 hT; (iterate 4 exact rfl); (iterate 2 omega))
    | (apply aw_draw [] [] hmix; decide +kernel)
    | (apply es_load; (iterate 5 exact rfl); first | exact ld_blk hT rfl rfl mem0 rfl rfl | exact ld_all hT rfl rfl mem0 rfl)
    | (apply es_load; (iterate 5 exact rfl); first | exact ld_blk hT rfl rfl mem1 rfl rfl | exact ld_all hT rfl rfl mem1 rfl)
    | (apply es_load; (iterate 5 exact rfl); first | exact ld_blk hT rfl rfl mem2 rfl rfl | exact ld_all hT rfl rfl mem2 rfl)
    | (apply es_box; (iterate 5 exact rfl); intro _) | (apply es_alloc hT; (iterate 5 exact rfl); intro _)
    | (apply aw_condT; (iterate 2 exact rfl)) | (apply aw_condF; (iterate 2 exact rfl))
    | (apply es_case; exact rfl; all_goals intro hb; all_goals (try simp only [hb]); all_goals (first | replace hb := of_decide_eq_true hb | replace hb := of_decide_eq_false hb | replace hb := bne_t hb | replace hb := bne_f hb | skip); all_goals (try (exfalso; omega)))
    | (apply aw_cond; exact rfl; all_goals intro hb; all_goals (try simp only [hb]); all_goals (first | replace hb := of_decide_eq_true hb | replace hb := of_decide_eq_false hb | replace hb := bne_t hb | replace hb := bne_f hb | skip); all_goals (try (exfalso; omega))))
  apply ret1; exact rfl
  exact ⟨rfl, dt_skip dt_end⟩
theorem due_DropNil (W : World) (kind id : Int) : QSpec Try.prog W 22 [.pointer none, .int .i64 kind, .int .i64 id] [] (.bool false) := by
  refine QSpec.ofD (fun h' hs => ?_)
  refine spec_body Try.func22 rfl rfl Try.results22 Try.ntmps22 rfl rfl ?_
  repeat' (first
    | apply aw_seq | apply aw_region | apply aw_ret | apply aw_skip | apply aw_exit | apply aw_block | apply es_nil
    | (apply es_pure hT; (iterate 4 exact rfl)) | (apply es_skip; (iterate 3 exact rfl)) | (apply es_skip0; (iterate 2 exact rfl))
    | (apply es_i64 hT; (iterate 4 exact rfl); (iterate 2 omega))
    | (apply aw_draw [] [] hmix; decide +kernel)
    | (apply es_load; (iterate 5 exact rfl); first | exact ld_blk hT rfl rfl mem0 rfl rfl | exact ld_all hT rfl rfl mem0 rfl)
    | (apply es_load; (iterate 5 exact rfl); first | exact ld_blk hT rfl rfl mem1 rfl rfl | exact ld_all hT rfl rfl mem1 rfl)
    | (apply es_load; (iterate 5 exact rfl); first | exact ld_blk hT rfl rfl mem2 rfl rfl | exact ld_all hT rfl rfl mem2 rfl)
    | (apply es_box; (iterate 5 exact rfl); intro _) | (apply es_alloc hT; (iterate 5 exact rfl); intro _)
    | (apply aw_condT; (iterate 2 exact rfl)) | (apply aw_condF; (iterate 2 exact rfl))
    | (apply es_case; exact rfl; all_goals intro hb; all_goals (try simp only [hb]); all_goals (first | replace hb := of_decide_eq_true hb | replace hb := of_decide_eq_false hb | replace hb := bne_t hb | replace hb := bne_f hb | skip); all_goals (try (exfalso; omega)))
    | (apply aw_cond; exact rfl; all_goals intro hb; all_goals (try simp only [hb]); all_goals (first | replace hb := of_decide_eq_true hb | replace hb := of_decide_eq_false hb | replace hb := bne_t hb | replace hb := bne_f hb | skip); all_goals (try (exfalso; omega))))
  apply ret1; exact rfl
  exact ⟨rfl, dt_end⟩
theorem due_TakeNil (W : World) (tick : Int) : QSpec Try.prog W 23 [.pointer none, .int .i64 tick] [] (.slice none 0 0) := by
  refine QSpec.ofD (fun h' hs => ?_)
  refine spec_body Try.func23 rfl rfl Try.results23 Try.ntmps23 rfl rfl ?_
  repeat' (first
    | apply aw_seq | apply aw_region | apply aw_ret | apply aw_skip | apply aw_exit | apply aw_block | apply es_nil
    | (apply es_pure hT; (iterate 4 exact rfl)) | (apply es_skip; (iterate 3 exact rfl)) | (apply es_skip0; (iterate 2 exact rfl))
    | (apply es_i64 hT; (iterate 4 exact rfl); (iterate 2 omega))
    | (apply aw_draw [] [] hmix; decide +kernel)
    | (apply es_load; (iterate 5 exact rfl); first | exact ld_blk hT rfl rfl mem0 rfl rfl | exact ld_all hT rfl rfl mem0 rfl)
    | (apply es_load; (iterate 5 exact rfl); first | exact ld_blk hT rfl rfl mem1 rfl rfl | exact ld_all hT rfl rfl mem1 rfl)
    | (apply es_load; (iterate 5 exact rfl); first | exact ld_blk hT rfl rfl mem2 rfl rfl | exact ld_all hT rfl rfl mem2 rfl)
    | (apply es_box; (iterate 5 exact rfl); intro _) | (apply es_alloc hT; (iterate 5 exact rfl); intro _)
    | (apply aw_condT; (iterate 2 exact rfl)) | (apply aw_condF; (iterate 2 exact rfl))
    | (apply es_case; exact rfl; all_goals intro hb; all_goals (try simp only [hb]); all_goals (first | replace hb := of_decide_eq_true hb | replace hb := of_decide_eq_false hb | replace hb := bne_t hb | replace hb := bne_f hb | skip); all_goals (try (exfalso; omega)))
    | (apply aw_cond; exact rfl; all_goals intro hb; all_goals (try simp only [hb]); all_goals (first | replace hb := of_decide_eq_true hb | replace hb := of_decide_eq_false hb | replace hb := bne_t hb | replace hb := bne_f hb | skip); all_goals (try (exfalso; omega))))
  apply ret1; exact rfl
  exact ⟨rfl, dt_end⟩

theorem due_TakeF (W : World) (F : List Chunk) (p : Nat) (A : Option Addr) (c : Nat) (l : List Due) (tick : Int) (hb : l.length ≤ 1000000) :
    FSpec Try.prog W 23 [.pointer (some ⟨p, 0, none⟩), .int .i64 tick] (dueRow p A c l F)
      (fun v h' => ∃ A1 c1 A2 c2, v = .slice A1 (takeN l tick) c1 ∧ h' = .own A1 (takeN l tick) c1 39 3 ((l.take (takeN l tick)).flatMap Due.enc) :: dueRow p A2 c2 (l.drop (takeN l tick)) F ∧ OwnF A1 (takeN l tick) c1 3 ((l.take (takeN l tick)).flatMap Due.enc)) :=
  (due_Take W F p A c l tick hb).conv (by
    rintro v h' ⟨A1, c1, A2, c2, rfl, rfl⟩ w hw
    exact ⟨_, hw, A1, c1, A2, c2, rfl, rfl, hw.ownF mem0⟩)
end Go.Proofs.Ytmoglacdddinjaa
