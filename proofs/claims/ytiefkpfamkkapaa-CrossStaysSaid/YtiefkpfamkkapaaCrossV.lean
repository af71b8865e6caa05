/- Orders of one owner, orders that are not to trade, orders that are not to wait, in plain lists. No program in sight. -/
import Derived.Test.YtiefkpfamkkapaaCrossQ
set_option linter.unusedSimpArgs false
set_option linter.unusedVariables false
namespace Go.Proofs.Ytiefkpfamkkapaa
open Go Go.Sl

theorem bookOf_sub (ls : List Order) : (∀ x ∈ bookOf ls, x ∈ ls) ∧ (bookOf ls).length ≤ ls.length := by
  have key : ∀ (ls l : List Order), (∀ x ∈ ls.foldl (fun l o => addO o l) l, x ∈ l ∨ x ∈ ls) ∧ (ls.foldl (fun l o => addO o l) l).length ≤ l.length + ls.length := by
    intro ls
    induction ls with
    | nil => intro l; exact ⟨fun x h => .inl h, by simp⟩
    | cons y ls ih =>
      intro l
      rw [List.foldl_cons]
      obtain ⟨h1, h2⟩ := ih (addO y l)
      have h3 := addO_len y l
      refine ⟨fun x hx => ?_, by simp; omega⟩
      rcases h1 x hx with h | h
      · unfold addO at h
        split at h
        · rcases List.mem_append.1 h with h | h
          · exact .inl h
          · exact .inr (by rw [List.mem_singleton.1 h]; exact List.mem_cons_self)
        · exact .inl h
      · exact .inr (List.mem_cons_of_mem _ h)
  obtain ⟨h1, h2⟩ := key ls []
  exact ⟨fun x hx => (h1 x hx).resolve_left (by simp), by simpa [bookOf] using h2⟩
theorem clash_get {o : Order} {l : List Order} (h : idxOf (clashO o) l < 0) : ∀ x ∈ l, x.id ≠ o.id := fun x hx e => by
  have := idxOf_neg'.1 h x hx
  simp [clashO, e] at this
theorem getO_none {id : Int} {l : List Order} (h : ∀ x ∈ l, x.id ≠ id) : getO id l = none := by
  unfold getO
  rw [List.find?_eq_none]
  intro x hx
  simp [hasO, h x hx]

/-! ### not to trade at once -/
theorem post_new {o : Order} {l : List Order} (hok : okO o = true) (hcl : idxOf (clashO o) l < 0) : newB 3 o l = true := by
  unfold newB
  rw [show asX 3 o = o from rfl, hok, decide_eq_true hcl]; rfl
theorem post_meets {o : Order} {l : List Order} (hok : okO o = true) (hcl : idxOf (clashO o) l < 0) (hl : l.length < 64) (hm : 0 < (meetsO 3 o l).length) : doV 3 o l = ⟨[], [], 0, 16, l⟩ := by
  have hwr : wrongV 3 o l = 16 := by
    unfold wrongV
    rw [if_neg (by rw [post_new hok hcl]; decide), if_neg (by intro h; omega), if_pos ⟨rfl, hm⟩]
  rw [doV_bad (by rw [hwr]; decide), hwr]
theorem post_waits {o : Order} {l : List Order} (hok : okO o = true) (hcl : idxOf (clashO o) l < 0) (hl : l.length < 64) (hm : (meetsO 3 o l).length = 0) : doV 3 o l = ⟨[], [], o.left, 0, l ++ [o]⟩ ∧ getO o.id (l ++ [o]) = some o := by
  have hm0 : meetsO 3 o l = [] := List.eq_nil_of_length_eq_zero hm
  have hwr : wrongV 3 o l = 0 := by
    unfold wrongV
    rw [if_neg (by rw [post_new hok hcl]; decide), if_neg (by intro h; omega), if_neg (by intro h; omega), if_neg (by intro h; exact absurd h.1 (by decide))]
  have hol := okO_left hok
  have hadd : addO o l = l ++ [o] := by
    unfold addO
    have : addOE o l = 0 := by
      unfold addOE
      rw [if_neg (by rw [hok]; simp; omega), if_neg (by omega)]
    rw [if_pos this]
  refine ⟨?_, ?_⟩
  · unfold doV
    rw [if_pos hwr, hm0]
    show DoneX.mk [] [] o.left 0 (restX 3 o ⟨o.left, l, [], []⟩) = _
    have : restX 3 o ⟨o.left, l, [], []⟩ = l ++ [o] := by
      unfold restX
      rw [if_pos ⟨rfl, by dsimp only; omega⟩]; exact hadd
    rw [this]
  · unfold getO
    have hn := clash_get hcl
    rw [List.find?_append]
    have : l.find? (hasO o.id) = none := getO_none hn
    rw [this]; simp [hasO]
theorem meets_head {how : Int} {o : Order} {l : List Order} {x : Order} {r : List Order} (h : sideO (otherB o.side) l = x :: r) : (takesB how o x = true → 0 < (meetsO how o l).length) ∧ (takesB how o x = false → (meetsO how o l).length = 0) := by
  unfold meetsO
  rw [h, List.takeWhile_cons]
  refine ⟨fun e => by simp [e], fun e => by simp [e]⟩

/-! ### one owner -/
theorem self_law {how : Int} {o : Order} {l : List Order} (hB : BookB l) (hown : ∀ x ∈ l, x.owner = o.owner) : (doV how o l).fills.length = 0 ∧ ((doV how o l).err = 0 → (doV how o l).left = o.left) := by
  by_cases h0 : wrongV how o l = 0
  · obtain ⟨hw, e1, e2, e3⟩ := doV_way hB h0
    obtain ⟨xs, h1, h2, h3⟩ := hw.mks
    have hf : (runX o l (meetsO how o l)).fills.length = 0 := by
      rcases Nat.eq_zero_or_pos (runX o l (meetsO how o l)).fills.length with h | h
      · exact h
      · have hx : xs[0]'(by omega) ∈ xs := List.getElem_mem _
        have k := (h3 0 _ (xs[0]'(by omega)) (List.getElem?_eq_getElem h) (List.getElem?_eq_getElem (by omega))).1.own
        exact absurd (hown _ (meets_mem (h1.subset hx)).1) k
    refine ⟨by rw [e1]; exact hf, fun _ => ?_⟩
    have hs := hw.sum
    rw [List.eq_nil_of_length_eq_zero hf] at hs
    have : sumQ [] = 0 := rfl
    rw [e2]; omega
  · rw [doV_bad h0]
    exact ⟨rfl, fun h => absurd h h0⟩

/-! ### not to wait -/
theorem now_law {how : Int} {o : Order} {l : List Order} (hB : BookB l) (hcl : idxOf (clashO o) l < 0) (hh : how = 1 ∨ how = 4) :
    getO o.id (doV how o l).bk = none ∧ (doV how o l).bk.length ≤ l.length ∧ ((doV how o l).err = 0 ∨ ((doV how o l).err = 1 ∧ (doV how o l).left = 0)) := by
  have hst : staysB how = false := by rcases hh with rfl | rfl <;> rfl
  by_cases h0 : wrongV how o l = 0
  · obtain ⟨hw, e1, e2, e3⟩ := doV_way hB h0
    have hbk : (doV how o l).bk = (runX o l (meetsO how o l)).bk := by
      unfold doV
      rw [if_pos h0]
      show restX how o _ = _
      unfold restX
      rw [if_neg (by rw [hst]; simp)]
    rw [hbk]
    refine ⟨getO_none (fun y hy => ?_), hw.len, .inl e3⟩
    obtain ⟨x, hx, h1, _⟩ := hw.sub y hy
    rw [h1]; exact clash_get hcl x hx
  · have h1 : wrongV how o l = 1 := by
      unfold wrongV at h0 ⊢
      by_cases hn : newB how o l = false
      · rw [if_pos hn]
      · rw [if_neg hn, if_neg (by rw [hst]; simp), if_neg (by omega), if_neg (by omega)] at h0
        exact absurd rfl h0
    rw [doV_bad h0, h1]
    exact ⟨getO_none (clash_get hcl), Nat.le_refl _, .inr ⟨rfl, rfl⟩⟩
end Go.Proofs.Ytiefkpfamkkapaa
