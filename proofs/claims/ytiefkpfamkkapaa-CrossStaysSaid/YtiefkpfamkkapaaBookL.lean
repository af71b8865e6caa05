/- Plain laws on orders: which is ahead, a side by that, its levels. No program in sight; conditions stand in each statement. -/
import Derived.Test.YtiefkpfamkkapaaCmp
set_option linter.unusedSimpArgs false
set_option linter.unusedVariables false
namespace Go.Proofs.Ytiefkpfamkkapaa
open Go Go.Sl

/-! ### rows by an order -/
theorem ins_ord {α : Type} {p : α → α → Bool} {m : List α} {q : α} (h : m.Pairwise fun a b => p a b = true) (htr : ∀ a b c, p a b = true → p b c = true → p a c = true) (htot : ∀ x ∈ m, p x q = true ∨ p q x = true) {n : Nat} (hn : n = (m.takeWhile fun x => p x q).length) :
    (m.take n ++ [q] ++ m.drop n).Pairwise fun a b => p a b = true := by
  subst hn
  have hl : ∀ x ∈ m.take (m.takeWhile fun x => p x q).length, p x q = true := fun x hx => take_while_all (p := fun x => p x q) (l := m) x hx
  have hsplit : m.take (m.takeWhile fun x => p x q).length ++ m.drop (m.takeWhile fun x => p x q).length = m := List.take_append_drop _ _
  have hp := h
  rw [← hsplit, List.pairwise_append] at hp
  obtain ⟨p1, p2, p3⟩ := hp
  have hr : ∀ y ∈ m.drop (m.takeWhile fun x => p x q).length, p q y = true := fun y hy => by
    cases hm : m.drop (m.takeWhile fun x => p x q).length with
    | nil => rw [hm] at hy; cases hy
    | cons z r =>
      have hz := drop_while_head (p := fun x => p x q) (l := m) hm
      have hzl : z ∈ m := List.mem_of_mem_drop (by rw [hm]; simp)
      have hqz : p q z = true := by
        rcases htot z hzl with h | h
        · rw [hz] at h; cases h
        · exact h
      rw [hm] at hy p2
      rcases List.mem_cons.1 hy with rfl | hy
      · exact hqz
      · exact htr _ _ _ hqz (List.rel_of_pairwise_cons p2 hy)
  rw [List.append_assoc, List.pairwise_append]
  refine ⟨p1, ?_, fun x hx y hy => ?_⟩
  · rw [List.singleton_append, List.pairwise_cons]; exact ⟨hr, p2⟩
  · rw [List.singleton_append] at hy
    rcases List.mem_cons.1 hy with rfl | hy
    · exact hl x hx
    · exact p3 x hx y hy
theorem ord_eq {α : Type} {p : α → α → Bool} (has : ∀ x y, p x y = true → p y x = true → False) : ∀ {a b : List α}, a.Pairwise (fun x y => p x y = true) → b.Pairwise (fun x y => p x y = true) → a.Perm b → a = b
  | [], b, _, _, hp => by rw [List.nil_perm.1 hp]
  | x :: a, [], _, _, hp => by have := hp.length_eq; simp at this
  | x :: a, y :: b, ha, hb, hp => by
    rw [List.pairwise_cons] at ha hb
    have hxy : x = y := by
      rcases List.mem_cons.1 (hp.mem_iff.1 (List.mem_cons_self (a := x) (l := a))) with h | h
      · exact h
      · rcases List.mem_cons.1 (hp.mem_iff.2 (List.mem_cons_self (a := y) (l := b))) with h' | h'
        · exact h'.symm
        · exact (has _ _ (ha.1 y h') (hb.1 x h)).elim
    subst hxy
    rw [ord_eq has ha.2 hb.2 (List.Perm.cons_inv hp)]

/-! ### orders -/
def betterB (s a b : Int) : Bool := (s == 1 && decide (a > b)) || (s == 2 && decide (a < b))
def isB (s : Int) : Bool := s == 1 || s == 2
/-- which of a side is ahead -/
def aheadS (s : Int) (a b : Order) : Bool := if a.price = b.price then decide (a.seq < b.seq) else betterB s a.price b.price
theorem aheadS_tr {s : Int} (a b c : Order) (h1 : aheadS s a b = true) (h2 : aheadS s b c = true) : aheadS s a c = true := by
  unfold aheadS betterB at *
  split at h1 <;> split at h2 <;> split <;> simp at * <;> omega
theorem aheadS_as {s : Int} (a b : Order) (h1 : aheadS s a b = true) (h2 : aheadS s b a = true) : False := by
  unfold aheadS betterB at *
  split at h1 <;> split at h2 <;> simp at * <;> omega
theorem aheadS_tot {s : Int} (hs : isB s = true) (a b : Order) (h : a.seq ≠ b.seq) : aheadS s a b = true ∨ aheadS s b a = true := by
  unfold aheadS betterB isB at *
  simp at hs
  split <;> split <;> simp at * <;> omega

def cfO (a b : Order) : Int := if betterB a.side a.price b.price then -1 else if betterB a.side b.price a.price then 1 else cmpI a.seq b.seq
theorem cfO_ahead {s : Int} (hs : isB s = true) {a b : Order} (ha : a.side = s) (hb : b.side = s) : (cfO a b < 0) ↔ aheadS s a b = true := by
  unfold cfO aheadS betterB cmpI isB at *
  subst ha
  simp at hs
  by_cases hp : a.price = b.price
  · rw [if_pos hp, hp]
    simp
    split <;> (try split) <;> omega
  · rw [if_neg hp]
    constructor
    · intro h
      split at h
      · assumption
      · split at h
        · omega
        · rename_i h1 h2
          exfalso
          simp at h1 h2
          omega
    · intro h
      rw [if_pos h]; omega

def insO (s : Int) (out : List Order) (o : Order) : List Order := out.take (out.takeWhile fun x => aheadS s x o).length ++ [o] ++ out.drop (out.takeWhile fun x => aheadS s x o).length
def isSide (s : Int) (o : Order) : Bool := o.side == s
def sideO (s : Int) (l : List Order) : List Order := (l.filter (isSide s)).foldl (insO s) []
def uqSeq (l : List Order) : Prop := l.Pairwise fun a b => a.seq ≠ b.seq
theorem insO_perm (s : Int) (out : List Order) (o : Order) : (insO s out o).Perm (o :: out) := ins_perm out o _
theorem foldO_perm (s : Int) : ∀ (l out : List Order), (l.foldl (insO s) out).Perm (l ++ out)
  | [], out => List.Perm.refl _
  | x :: l, out => by
    rw [List.foldl_cons]
    exact (foldO_perm s l (insO s out x)).trans ((List.Perm.append_left l (insO_perm s out x)).trans List.perm_middle)
theorem uqSeq_perm {l r : List Order} (hp : r.Perm l) (h : uqSeq l) : uqSeq r := (hp.pairwise_iff (fun {a b} hab e => hab e.symm)).2 h
theorem foldO_up {s : Int} (hs : isB s = true) : ∀ (l out : List Order), uqSeq (l ++ out) → out.Pairwise (fun a b => aheadS s a b = true) → (l.foldl (insO s) out).Pairwise (fun a b => aheadS s a b = true)
  | [], out, _, h => h
  | x :: l, out, hu, h => by
    rw [List.foldl_cons]
    have hu2 : uqSeq (l ++ insO s out x) := by
      have hp : (x :: l ++ out).Perm (l ++ insO s out x) := List.perm_middle.symm.trans (List.Perm.append_left l (insO_perm s out x).symm)
      exact uqSeq_perm hp.symm hu
    refine foldO_up hs l (insO s out x) hu2 (ins_ord h (fun a b c => aheadS_tr a b c) (fun y hy => ?_) rfl)
    have hu3 : uqSeq (x :: (l ++ out)) := hu
    unfold uqSeq at hu3
    rw [List.pairwise_cons] at hu3
    exact aheadS_tot hs y x (fun e => hu3.1 y (List.mem_append_right _ hy) e.symm)
theorem sideO_perm (s : Int) (l : List Order) : (sideO s l).Perm (l.filter (isSide s)) := by
  have := foldO_perm s (l.filter (isSide s)) []
  rw [List.append_nil] at this; exact this
theorem sideO_up {s : Int} (hs : isB s = true) {l : List Order} (hu : uqSeq l) : (sideO s l).Pairwise (fun a b => aheadS s a b = true) :=
  foldO_up hs _ [] (by rw [List.append_nil]; exact hu.sublist List.filter_sublist) List.Pairwise.nil
theorem sideO_len (s : Int) (l : List Order) : (sideO s l).length ≤ l.length := by
  rw [(sideO_perm s l).length_eq]; exact List.length_filter_le _ _
theorem sideO_side {s : Int} {l : List Order} {o : Order} (h : o ∈ sideO s l) : o ∈ l ∧ o.side = s := by
  have := (sideO_perm s l).mem_iff.1 h
  rw [List.mem_filter] at this
  exact ⟨this.1, by simpa [isSide] using this.2⟩
/-- what the sort leaves is the side by its order -/
theorem side_sorted {s : Int} {l m : List Order} (hu : uqSeq l) (hv : ∀ o ∈ l, isB o.side = true) (hp : m.Perm (l.filter (isSide s))) (hs : m.Pairwise (fun a b => ¬ cfO b a < 0)) : m = sideO s l := by
  by_cases hb : isB s = true
  · refine ord_eq (p := aheadS s) (fun x y => aheadS_as x y) ?_ (sideO_up hb hu) (hp.trans (sideO_perm s l).symm)
    have hmu : uqSeq m := uqSeq_perm hp (hu.sublist List.filter_sublist)
    have hms : ∀ o ∈ m, o.side = s := fun o ho => by
      have := hp.mem_iff.1 ho
      rw [List.mem_filter] at this
      simpa [isSide] using this.2
    refine List.Pairwise.imp_of_mem (fun {a b} ha hb' hab => ?_) (hs.and hmu)
    rcases aheadS_tot hb a b hab.2 with h | h
    · exact h
    · exact absurd ((cfO_ahead hb (hms b hb') (hms a ha)).2 h) hab.1
  · have he : l.filter (isSide s) = [] := by
      rw [List.filter_eq_nil_iff]
      intro o ho hos
      have := hv o ho
      simp only [isSide, beq_iff_eq] at hos
      rw [hos] at this
      exact hb this
    rw [he] at hp
    rw [List.perm_nil.1 hp]
    unfold sideO; rw [he]; rfl

/-! ### levels -/
structure Lvl where
  price : Int
  qty : Int
  deriving DecidableEq
def Lvl.enc (v : Lvl) : List Value := [.int .i64 v.price, .int .i64 v.qty]
theorem Lvl.enc_len (v : Lvl) : v.enc.length = 2 := rfl
theorem Lvl.enc_one (v : Lvl) : ∀ x ∈ v.enc, x.oneCell' = true := List.all_eq_true.1 (rfl : v.enc.all Value.oneCell' = true)
def addLv (v : List Lvl) (o : Order) : List Lvl := match v.getLast? with
  | some x => if x.price = o.price then v.dropLast ++ [⟨x.price, x.qty + o.left⟩] else v ++ [⟨o.price, o.left⟩]
  | none => [⟨o.price, o.left⟩]
def levelsO (o : List Order) : List Lvl := o.foldl addLv []
theorem addLv_len (v : List Lvl) (o : Order) : (addLv v o).length ≤ v.length + 1 := by
  unfold addLv
  split
  · rename_i x hx
    have hne : v ≠ [] := fun e => by rw [e] at hx; cases hx
    split
    · simp
      (try (have := List.length_pos_iff.2 hne; omega))
    · simp
  · simp
theorem levelsO_add (o : List Order) (x : Order) : levelsO (o ++ [x]) = addLv (levelsO o) x := by simp [levelsO, List.foldl_append]
end Go.Proofs.Ytiefkpfamkkapaa
