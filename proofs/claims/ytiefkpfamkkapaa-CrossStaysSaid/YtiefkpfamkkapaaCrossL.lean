/- Orders that meet, in plain lists: what an order that comes does to a book. No program in sight. -/
import Derived.Test.YtiefkpfamkkapaaGate
set_option linter.unusedSimpArgs false
set_option linter.unusedVariables false
namespace Go.Proofs.Ytiefkpfamkkapaa
open Go Go.Sl

structure FillR where
  maker : Int
  taker : Int
  mparty : Int
  tparty : Int
  price : Int
  qty : Int
  left : Int
  deriving DecidableEq
def FillR.enc (f : FillR) : List Value := [.int .i64 f.maker, .int .i64 f.taker, .int .i64 f.mparty, .int .i64 f.tparty, .int .i64 f.price, .int .i64 f.qty, .int .i64 f.left]
theorem FillR.enc_len (f : FillR) : f.enc.length = 7 := rfl
theorem FillR.enc_one (f : FillR) : ∀ x ∈ f.enc, x.oneCell' = true := List.all_eq_true.1 (rfl : f.enc.all Value.oneCell' = true)
structure GoneR where
  id : Int
  owner : Int
  left : Int
  deriving DecidableEq
def GoneR.enc (f : GoneR) : List Value := [.int .i64 f.id, .int .i64 f.owner, .int .i64 f.left]
theorem GoneR.enc_len (f : GoneR) : f.enc.length = 3 := rfl
theorem GoneR.enc_one (f : GoneR) : ∀ x ∈ f.enc, x.oneCell' = true := List.all_eq_true.1 (rfl : f.enc.all Value.oneCell' = true)

/-- may an order trade with one of the book? -/
def takesB (how : Int) (o x : Order) : Bool := how == 4 || (isB o.side && !betterB o.side x.price o.price)
/-- all that an order meets, the best ahead -/
def meetsO (how : Int) (o : Order) (l : List Order) : List Order := (sideO (otherB o.side) l).takeWhile (takesB how o)

structure XSt where
  left : Int
  bk : List Order
  fills : List FillR
  gones : List GoneR
def stepX (o : Order) (s : XSt) (x : Order) : XSt :=
  if s.left = 0 then s else if x.owner = o.owner then ⟨s.left, dropO x.id s.bk, s.fills, s.gones ++ [⟨x.id, x.owner, x.left⟩]⟩
  else ⟨s.left - min s.left x.left, if min s.left x.left = x.left then dropO x.id s.bk else lessO x.id (x.left - min s.left x.left) s.bk,
    s.fills ++ [⟨x.id, o.id, x.owner, o.owner, x.price, min s.left x.left, x.left - min s.left x.left⟩], s.gones⟩
def runX (o : Order) (l : List Order) (ms : List Order) : XSt := ms.foldl (stepX o) ⟨o.left, l, [], []⟩
def othersOf (o : Order) (ms : List Order) : List Order := ms.filter fun x => !(x.owner == o.owner)
def wouldV (how : Int) (o : Order) (l : List Order) : Int := if isB o.side then max (min (sumL (othersOf o (meetsO how o l))) o.left) 0 else 0
/-- an order as it is looked at: at the market it has no price -/
def asX (how : Int) (o : Order) : Order := if how = 4 then { o with price := 1 } else o
def newB (how : Int) (o : Order) (l : List Order) : Bool := decide (0 ≤ how) && (decide (how ≤ 4) && (!(how == 4 && !(o.price == 0)) && (okO (asX how o) && decide (idxOf (clashO o) l < 0))))
def staysB (how : Int) : Bool := how == 0 || how == 3
def wrongV (how : Int) (o : Order) (l : List Order) : Int :=
  if newB how o l = false then 1 else if staysB how = true ∧ l.length ≥ 64 then 3 else if how = 3 ∧ (meetsO how o l).length > 0 then 16
  else if how = 2 ∧ wouldV how o l < o.left then 17 else 0
structure DoneX where
  fills : List FillR
  gones : List GoneR
  left : Int
  err : Int
  bk : List Order
def restX (how : Int) (o : Order) (s : XSt) : List Order := if staysB how = true ∧ s.left > 0 then addO { o with left := s.left } s.bk else s.bk
def doV (how : Int) (o : Order) (l : List Order) : DoneX :=
  if wrongV how o l = 0 then
    let s := runX o l (meetsO how o l)
    ⟨s.fills, s.gones, s.left, 0, restX how o s⟩
  else ⟨[], [], 0, wrongV how o l, l⟩

/-! ### the book along the way -/
theorem BookB.drop {l : List Order} (h : BookB l) (id : Int) : BookB (dropO id l) := h.sub (dropO_sub id l)
theorem stepX_B {o : Order} {s : XSt} {x : Order} (h : BookB s.bk) : BookB (stepX o s x).bk := by
  unfold stepX
  split
  · exact h
  · split
    · exact h.drop _
    · dsimp only
      split
      · exact h.drop _
      · exact h.lessAny _ _
theorem foldX_B {o : Order} : ∀ (ms : List Order) (s : XSt), BookB s.bk → BookB (ms.foldl (stepX o) s).bk
  | [], _, h => h
  | x :: ms, s, h => by rw [List.foldl_cons]; exact foldX_B ms _ (stepX_B h)
theorem runX_B {o : Order} {l ms : List Order} (h : BookB l) : BookB (runX o l ms).bk := foldX_B ms _ h
theorem doV_B {how : Int} {o : Order} {l : List Order} (h : BookB l) : BookB (doV how o l).bk := by
  unfold doV
  split
  · dsimp only
    unfold restX
    split
    · exact (runX_B h).add _
    · exact runX_B h
  · exact h
theorem stepX_stop {o : Order} {s : XSt} (h : s.left = 0) (x : Order) : stepX o s x = s := by unfold stepX; rw [if_pos h]
theorem foldX_stop {o : Order} {s : XSt} (h : s.left = 0) : ∀ ms : List Order, ms.foldl (stepX o) s = s
  | [] => rfl
  | x :: ms => by rw [List.foldl_cons, stepX_stop h, foldX_stop h ms]
theorem stepX_left {o : Order} {s : XSt} {x : Order} (hx : 1 ≤ x.left) (h : 0 ≤ s.left) : 0 ≤ (stepX o s x).left ∧ (stepX o s x).left ≤ s.left := by
  unfold stepX
  split
  · exact ⟨h, Int.le_refl _⟩
  · split
    · exact ⟨h, Int.le_refl _⟩
    · dsimp only; omega

/-! ### the first one gone -/
theorem drop_perm {l : List Order} (hu : l.Pairwise fun a b => a.id ≠ b.id) {x : Order} (hx : x ∈ l) : l.Perm (x :: dropO x.id l) := by
  rcases find_at (p := hasO x.id) l with ⟨hi, hf⟩ | ⟨i, y, hi, hy, hp, hf⟩
  · have := idxOf_neg'.1 (show idxOf (hasO x.id) l < 0 by omega) x hx
    simp [hasO] at this
  · have hyx : y = x := by
      have hyi : y.id = x.id := by simpa [hasO] using hp
      obtain ⟨j, hj⟩ := List.getElem?_of_mem hx
      obtain ⟨hil, hie⟩ := List.getElem?_eq_some_iff.1 hy
      obtain ⟨hjl, hje⟩ := List.getElem?_eq_some_iff.1 hj
      rcases Nat.lt_trichotomy i j with h | h | h
      · have := List.pairwise_iff_getElem.1 hu i j hil hjl h
        rw [hie, hje] at this; exact absurd hyi this
      · subst h; rw [hie] at hje; exact hje
      · have := List.pairwise_iff_getElem.1 hu j i hjl hil h
        rw [hie, hje] at this; exact absurd hyi.symm this
    subst hyx
    obtain ⟨hil, hie⟩ := List.getElem?_eq_some_iff.1 hy
    have e : dropO y.id l = l.take i ++ l.drop (i + 1) := by
      unfold dropO
      rw [hi, if_neg (by omega)]; simp
    rw [e]
    have : l = l.take i ++ y :: l.drop (i + 1) := by
      rw [← hie, List.getElem_cons_drop, List.take_append_drop]
    conv => lhs; rw [this]
    exact List.perm_middle
/-- the head of a side gone, its tail is left -/
theorem side_drop {s : Int} {l : List Order} (hs : isB s = true) (h : BookB l) {x : Order} {r : List Order} (he : sideO s l = x :: r) : sideO s (dropO x.id l) = r := by
  have hx : x ∈ sideO s l := by rw [he]; exact List.mem_cons_self
  have hup := sideO_up hs h.seq
  rw [he, List.pairwise_cons] at hup
  refine ord_eq (p := aheadS s) (fun x y => aheadS_as x y) (sideO_up hs (h.drop x.id).seq) hup.2 ?_
  have h1 := (drop_perm h.id (sideO_side hx).1).filter (isSide s)
  have hsx : isSide s x = true := by simp [isSide, (sideO_side hx).2]
  rw [List.filter_cons, if_pos hsx] at h1
  have h2 : (x :: r).Perm (x :: (dropO x.id l).filter (isSide s)) := by rw [← he]; exact (sideO_perm s l).trans h1
  exact (sideO_perm s (dropO x.id l)).trans h2.cons_inv.symm
theorem meets_drop {how : Int} {o : Order} {l : List Order} (hs : isB o.side = true) (h : BookB l) {x : Order} {r : List Order} (he : meetsO how o l = x :: r) : meetsO how o (dropO x.id l) = r := by
  have ho : isB (otherB o.side) = true := by rcases isB_two hs with h | h <;> simp [otherB, isB, h]
  unfold meetsO at he ⊢
  cases hsd : sideO (otherB o.side) l with
  | nil => rw [hsd] at he; simp at he
  | cons y t =>
    rw [hsd, List.takeWhile_cons] at he
    split at he
    · injection he with h1 h2
      subst h1
      rw [side_drop ho h hsd]; exact h2
    · cases he
/-- what is still met after some were -/
theorem run_meets {how : Int} {o : Order} {l : List Order} (hs : isB o.side = true) (h : BookB l) : ∀ (k : Nat), k ≤ (meetsO how o l).length → (runX o l ((meetsO how o l).take k)).left ≠ 0 →
    meetsO how o (runX o l ((meetsO how o l).take k)).bk = (meetsO how o l).drop k := by
  intro k
  induction k with
  | zero => intro _ _; rfl
  | succ k ih =>
    intro hk hl
    obtain ⟨x, hx⟩ : ∃ x, (meetsO how o l)[k]? = some x := ⟨(meetsO how o l)[k]'(by omega), List.getElem?_eq_getElem (by omega)⟩
    have hst : runX o l ((meetsO how o l).take (k + 1)) = stepX o (runX o l ((meetsO how o l).take k)) x := by
      unfold runX; rw [List.take_add_one, hx, List.foldl_append]; rfl
    rw [hst] at hl ⊢
    have hl0 : (runX o l ((meetsO how o l).take k)).left ≠ 0 := fun h0 => hl (by rw [stepX_stop h0]; exact h0)
    have ihk := ih (by omega) hl0
    have hd : (meetsO how o l).drop k = x :: (meetsO how o l).drop (k + 1) := by
      obtain ⟨hkl, hke⟩ := List.getElem?_eq_some_iff.1 hx
      rw [← hke, List.getElem_cons_drop]
    rw [hd] at ihk
    have hBk : BookB (runX o l ((meetsO how o l).take k)).bk := runX_B h
    generalize runX o l ((meetsO how o l).take k) = s at hl hl0 ihk hBk ⊢
    have hgone := meets_drop hs hBk ihk
    unfold stepX at hl ⊢
    rw [if_neg hl0] at hl ⊢
    split
    · exact hgone
    · rename_i hown
      rw [if_neg hown] at hl
      dsimp only at hl ⊢
      have hm : min s.left x.left = x.left := by omega
      rw [if_pos hm]; exact hgone
end Go.Proofs.Ytiefkpfamkkapaa
