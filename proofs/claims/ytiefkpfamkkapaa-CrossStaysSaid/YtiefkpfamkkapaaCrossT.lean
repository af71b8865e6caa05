/- A book that is not crossed stays so; what is left of all orders. No program in sight. -/
import Derived.Test.YtiefkpfamkkapaaCrossV
set_option linter.unusedSimpArgs false
set_option linter.unusedVariables false
namespace Go.Proofs.Ytiefkpfamkkapaa
open Go Go.Sl

/-- no two orders could trade -/
def uncr (l : List Order) : Prop := ∀ a ∈ l, ∀ b ∈ l, a.side = 1 → b.side = 2 → a.price < b.price
def sumG (g : List GoneR) : Int := (g.map GoneR.left).sum
theorem sumG_app (a b : List GoneR) : sumG (a ++ b) = sumG a + sumG b := by simp only [sumG, List.map_append]; exact sum_append _ _
theorem sumL_cons (x : Order) (l : List Order) : sumL (x :: l) = x.left + sumL l := by simp [sumL]
theorem sumL_set {l : List Order} {i : Nat} {x y : Order} (h : l[i]? = some x) : sumL (l.set i y) = sumL l - x.left + y.left := by
  induction l generalizing i with
  | nil => simp at h
  | cons z l ih =>
    cases i with
    | zero => simp only [List.getElem?_cons_zero, Option.some.injEq] at h; subst h; rw [List.set_cons_zero, sumL_cons, sumL_cons]; omega
    | succ i => rw [List.set_cons_succ, sumL_cons, sumL_cons, ih (by simpa using h)]; omega
theorem drop_sum {l : List Order} (hB : BookB l) {x : Order} (hx : x ∈ l) : sumL (dropO x.id l) = sumL l - x.left := by
  have := sumL_perm (drop_perm hB.id hx)
  rw [sumL_cons] at this; omega
theorem less_sum {l : List Order} (hB : BookB l) {x : Order} (hx : x ∈ l) {left : Int} (h1 : 1 ≤ left) (h2 : left ≤ x.left) : sumL (lessO x.id left l) = sumL l - x.left + left := by
  have hg := getO_mem hB.id hx
  rcases find_at (p := hasO x.id) l with ⟨hi, hf⟩ | ⟨i, y, hi, hy, hp, hf⟩
  · have : getO x.id l = none := hf
    rw [hg] at this; cases this
  · have hyx : y = x := by have : getO x.id l = some y := hf; rw [hg] at this; exact (Option.some.inj this).symm
    subst hyx
    have hE : lessE y.id left l = 0 := by simp [lessE, hg]; omega
    have hL : lessO y.id left l = l.set i { y with left := left } := by simp [lessO, hg, hE, hi]
    rw [hL, sumL_set hy]
theorem side_sum {l : List Order} (hB : BookB l) : allS 1 l + allS 2 l = sumL l := by
  rw [allS_filter, allS_filter]
  have key : ∀ m : List Order, (∀ x ∈ m, isB x.side = true) → sumL (m.filter (isSide 1)) + sumL (m.filter (isSide 2)) = sumL m := by
    intro m
    induction m with
    | nil => intro _; rfl
    | cons x m ih =>
      intro hm
      have := ih (fun y hy => hm y (List.mem_cons_of_mem _ hy))
      rcases isB_two (hm x List.mem_cons_self) with e | e
      · rw [List.filter_cons, List.filter_cons, show isSide 1 x = true by simp [isSide, e], show isSide 2 x = false by simp [isSide, e], if_pos rfl, if_neg (by decide), sumL_cons, sumL_cons]; omega
      · rw [List.filter_cons, List.filter_cons, show isSide 1 x = false by simp [isSide, e], show isSide 2 x = true by simp [isSide, e], if_neg (by decide), if_pos rfl, sumL_cons, sumL_cons]; omega
  exact key l hB.side
/-- what is gone from the book was filled, or is told as gone -/
theorem run_sum {how : Int} {o : Order} {l : List Order} (hB : BookB l) (hs : isB o.side = true) (ho : 0 ≤ o.left) : ∀ k, k ≤ (meetsO how o l).length →
    sumL (runX o l ((meetsO how o l).take k)).bk = sumL l - sumQ (runX o l ((meetsO how o l).take k)).fills - sumG (runX o l ((meetsO how o l).take k)).gones ∧ ∀ g ∈ (runX o l ((meetsO how o l).take k)).gones, 1 ≤ g.left := by
  intro k
  induction k with
  | zero => intro _; exact ⟨by show sumL l = sumL l - 0 - 0; omega, fun g hg => (by cases hg)⟩
  | succ k ih =>
    intro hk
    obtain ⟨x, hx⟩ : ∃ x, (meetsO how o l)[k]? = some x := ⟨(meetsO how o l)[k]'(by omega), List.getElem?_eq_getElem (by omega)⟩
    obtain ⟨ih1, ih2⟩ := ih (by omega)
    have hrm := run_meets (how := how) hs hB k (by omega)
    have hBk : BookB (runX o l ((meetsO how o l).take k)).bk := runX_B hB
    have hfc := (runX_facts (o := o) (l := l) (ms := meetsO how o l) (fun y hy => (hB.left y (meets_mem hy).1).1) ho k (by omega)).1
    have hxl := (hB.left x (meets_mem (List.mem_of_getElem? hx)).1)
    rw [runX_step hx]
    have hmem : (runX o l ((meetsO how o l).take k)).left ≠ 0 → x ∈ (runX o l ((meetsO how o l).take k)).bk := fun h0 => by
      have : x ∈ meetsO how o (runX o l ((meetsO how o l).take k)).bk := by
        rw [hrm h0]
        obtain ⟨hkl, hke⟩ := List.getElem?_eq_some_iff.1 hx
        rw [← hke, ← List.getElem_cons_drop hkl]; exact List.mem_cons_self
      exact (meets_mem this).1
    generalize runX o l ((meetsO how o l).take k) = s at ih1 ih2 hmem hBk hfc ⊢
    unfold stepX
    split
    · exact ⟨ih1, ih2⟩
    · rename_i h0
      have hxm := hmem h0
      split
      · refine ⟨?_, fun g hg => ?_⟩
        · dsimp only
          rw [drop_sum hBk hxm, sumG_app, ih1]; simp [sumG]; omega
        · dsimp only at hg
          rcases List.mem_append.1 hg with hg | hg
          · exact ih2 g hg
          · rw [List.mem_singleton.1 hg]; exact hxl.1
      · refine ⟨?_, ih2⟩
        dsimp only
        rw [sumQ_app]
        have e : sumQ [⟨x.id, o.id, x.owner, o.owner, x.price, min s.left x.left, x.left - min s.left x.left⟩] = min s.left x.left := by simp [sumQ]
        rw [e]
        split
        · rename_i hm
          rw [drop_sum hBk hxm, ih1, hm]; omega
        · rename_i hm
          rw [less_sum hBk hxm (by omega) (by omega), ih1]; omega
theorem sumQ_pos {f : List FillR} (h : ∀ x ∈ f, 1 ≤ x.qty) : 0 ≤ sumQ f := by
  induction f with
  | nil => simp [sumQ]
  | cons x f ih => have := h x List.mem_cons_self; have := ih (fun y hy => h y (List.mem_cons_of_mem _ hy)); simp only [sumQ, List.map_cons, List.sum_cons] at *; omega
theorem sumG_pos {f : List GoneR} (h : ∀ x ∈ f, 1 ≤ x.left) : 0 ≤ sumG f := by
  induction f with
  | nil => simp [sumG]
  | cons x f ih => have := h x List.mem_cons_self; have := ih (fun y hy => h y (List.mem_cons_of_mem _ hy)); simp only [sumG, List.map_cons, List.sum_cons] at *; omega
/-- all that the statement asks of one order -/
theorem stays_law {how : Int} {o : Order} {l : List Order} (hB : BookB l) (hu : uncr l) (h0 : wrongV how o l = 0) :
    uncr (doV how o l).bk ∧ sumL (doV how o l).bk = sumL l - sumQ (doV how o l).fills - sumG (doV how o l).gones + (if staysB how then (doV how o l).left else 0) ∧
    sumQ (doV how o l).fills = o.left - (doV how o l).left ∧ 0 ≤ (doV how o l).left ∧ (∀ g ∈ (doV how o l).gones, 1 ≤ g.left) ∧
    (∀ f ∈ (doV how o l).fills, 1 ≤ f.qty ∧ f.mparty ≠ o.owner ∧ f.taker = o.id) ∧ sumQ (doV how o l).fills + sumG (doV how o l).gones ≤ sumL l := by
  have hnb := wrong_new' h0
  have hol := newB_left hnb
  have hsd := newB_side hnb
  have hw := (doV_way hB h0).1
  obtain ⟨hs1, hs2⟩ := run_sum (how := how) hB hsd (by omega) (meetsO how o l).length (Nat.le_refl _)
  rw [List.take_length] at hs1 hs2
  have hfc := (runX_facts (o := o) (l := l) (ms := meetsO how o l) (fun y hy => (hB.left y (meets_mem hy).1).1) (by omega) (meetsO how o l).length (Nat.le_refl _))
  rw [List.take_length] at hfc
  have hBs : BookB (runX o l (meetsO how o l)).bk := runX_B hB
  have hrm := run_meets (how := how) hsd hB (meetsO how o l).length (Nat.le_refl _)
  rw [List.take_length, List.drop_length] at hrm
  have hus : uncr (runX o l (meetsO how o l)).bk := fun a ha b hb ea eb => by
    obtain ⟨a', ha', _, _, a3, a4, _⟩ := hw.sub a ha
    obtain ⟨b', hb', _, _, b3, b4, _⟩ := hw.sub b hb
    rw [a4, b4]; exact hu a' ha' b' hb' (by rw [← a3]; exact ea) (by rw [← b3]; exact eb)
  have hd : doV how o l = ⟨(runX o l (meetsO how o l)).fills, (runX o l (meetsO how o l)).gones, (runX o l (meetsO how o l)).left, 0, restX how o (runX o l (meetsO how o l))⟩ := by unfold doV; rw [if_pos h0]
  have hfl : ∀ f ∈ (runX o l (meetsO how o l)).fills, 1 ≤ f.qty ∧ f.mparty ≠ o.owner ∧ f.taker = o.id := fun f hf => by
    obtain ⟨xs, h1, h2, h3⟩ := hw.mks
    obtain ⟨i, hi⟩ := List.getElem?_of_mem hf
    have hlt := (List.getElem?_eq_some_iff.1 hi).1
    have k := (h3 i f (xs[i]'(by omega)) hi (List.getElem?_eq_getElem (by omega))).1
    exact ⟨k.qty, by rw [k.mparty]; exact k.own, k.taker⟩
  have hpos : 0 ≤ sumL (runX o l (meetsO how o l)).bk := (sumL_bd hBs.left).1
  have hsub := hw.sub
  have hlen := hw.len
  have hsum := hw.sum
  rw [hd]
  dsimp only
  generalize runX o l (meetsO how o l) = s at *
  refine ⟨?_, ?_, hsum, hfc.1, hs2, hfl, by omega⟩
  · unfold restX
    split
    · rename_i hst
      have hm : meetsO how o s.bk = [] := hrm (by omega)
      rw [meets_filter hsd hBs] at hm
      have hno : ∀ y ∈ s.bk, y.side = otherB o.side → takesB how o y = false := fun y hy hys => by
        have hmem : y ∈ sideO (otherB o.side) s.bk := (sideO_perm _ _).mem_iff.2 (List.mem_filter.2 ⟨hy, by simp [isSide, hys]⟩)
        cases h : takesB how o y
        · rfl
        · have := List.mem_filter.2 ⟨hmem, h⟩
          rw [hm] at this; cases this
      have hh4 : how ≠ 4 := by intro e; rw [e] at hst; exact absurd hst.1 (by decide)
      have hlim : ∀ y ∈ s.bk, y.side = otherB o.side → betterB o.side y.price o.price = true := fun y hy hys => by
        have := hno y hy hys
        unfold takesB at this
        rw [show (how == 4) = false by simpa using hh4, hsd] at this
        simpa using this
      intro a ha b hb ea eb
      have hmem : ∀ z ∈ addO { o with left := s.left } s.bk, z ∈ s.bk ∨ z = { o with left := s.left } := fun z hz => by
        unfold addO at hz
        split at hz
        · rcases List.mem_append.1 hz with h | h
          · exact .inl h
          · exact .inr (List.mem_singleton.1 h)
        · exact .inl hz
      rcases hmem a ha with ha | ha <;> rcases hmem b hb with hb | hb
      · exact hus a ha b hb ea eb
      · have hos : o.side = 2 := by rw [hb] at eb; exact eb
        have := hlim a ha (by rw [hos]; exact ea)
        rw [hos] at this
        rw [hb]; simp [betterB] at this; exact this
      · have hos : o.side = 1 := by rw [ha] at ea; exact ea
        have := hlim b hb (by rw [hos]; exact eb)
        rw [hos] at this
        rw [ha]; simp [betterB] at this; exact this
      · rw [ha] at ea; rw [hb] at eb; simp only at ea eb; omega
    · exact hus
  · unfold restX
    cases hst : staysB how
    · simp; omega
    · have hh4 : how ≠ 4 := by intro e; rw [e] at hst; exact absurd hst (by decide)
      by_cases hl0 : s.left > 0
      · rw [if_pos ⟨rfl, hl0⟩, if_pos rfl]
        have hok : okO { o with left := s.left } = true := by
          have : okO o = true := by
            unfold newB at hnb
            simp only [Bool.and_eq_true] at hnb
            have h := hnb.2.2.2.1
            unfold asX at h
            rw [if_neg hh4] at h; exact h
          simp only [okO, Bool.and_eq_true, decide_eq_true_eq] at this ⊢
          obtain ⟨⟨⟨⟨⟨⟨⟨a1, a2⟩, a3⟩, a4⟩, a5⟩, a6⟩, a7⟩, a8⟩ := this
          exact ⟨⟨⟨⟨⟨⟨⟨a1, a2⟩, a3⟩, a4⟩, by omega⟩, by omega⟩, a7⟩, a8⟩
        have hcl : idxOf (clashO { o with left := s.left }) s.bk < 0 := by
          rw [idxOf_neg']
          intro y hy
          obtain ⟨x, hx, e1, e2, _⟩ := hsub y hy
          have hcl0 : idxOf (clashO o) l < 0 := by
            unfold newB at hnb
            simp only [Bool.and_eq_true, decide_eq_true_eq] at hnb
            exact hnb.2.2.2.2
          have := idxOf_neg'.1 hcl0 x hx
          unfold clashO at this ⊢
          rw [e1, e2]; exact this
        have hln : ¬ s.bk.length ≥ 64 := by
          intro hge
          have : l.length ≥ 64 := by omega
          unfold wrongV at h0
          rw [if_neg (by rw [hnb]; decide), if_pos ⟨hst, this⟩] at h0
          omega
        have hadd : addO { o with left := s.left } s.bk = s.bk ++ [{ o with left := s.left }] := by
          unfold addO
          have : addOE { o with left := s.left } s.bk = 0 := by
            unfold addOE
            rw [if_neg (by rw [hok]; simp; omega), if_neg hln]
          rw [if_pos this]
        rw [hadd, sumL_append, hs1]; simp [sumL]
      · rw [if_neg (fun h => hl0 h.2), if_pos rfl]; omega
theorem levels_price (o : List Order) : ∀ v ∈ levelsO o, ∃ x ∈ o, v.price = x.price := by
  have key : ∀ (o : List Order) (v : List Lvl) (P : Int → Prop), (∀ w ∈ v, P w.price) → (∀ x ∈ o, P x.price) → ∀ w ∈ o.foldl addLv v, P w.price := by
    intro o
    induction o with
    | nil => intro v P hv _ w hw; exact hv w hw
    | cons x o ih =>
      intro v P hv ho w hw
      rw [List.foldl_cons] at hw
      refine ih (addLv v x) P (fun u hu => ?_) (fun y hy => ho y (List.mem_cons_of_mem _ hy)) w hw
      rcases addLv_eq v x with ⟨u', w', rfl, hp, he⟩ | he
      · rw [he] at hu
        rcases List.mem_append.1 hu with h | h
        · exact hv u (List.mem_append_left _ h)
        · rw [List.mem_singleton.1 h]; exact hv w' (by simp)
      · rw [he] at hu
        rcases List.mem_append.1 hu with h | h
        · exact hv u h
        · rw [List.mem_singleton.1 h]; exact ho x List.mem_cons_self
  intro v hv
  exact key o [] (fun p => ∃ x ∈ o, p = x.price) (fun w hw => (by cases hw)) (fun x hx => ⟨x, hx, rfl⟩) v hv
theorem uncr_levels {l : List Order} (hu : uncr l) {v w : Lvl} (hv : v ∈ levelsO (sideO 1 l)) (hw : w ∈ levelsO (sideO 2 l)) : v.price < w.price := by
  obtain ⟨x, hx, e1⟩ := levels_price _ v hv
  obtain ⟨y, hy, e2⟩ := levels_price _ w hw
  rw [e1, e2]
  exact hu x (sideO_side hx).1 y (sideO_side hy).1 (sideO_side hx).2 (sideO_side hy).2
end Go.Proofs.Ytiefkpfamkkapaa
