/- The plain data of the program: what its structs hold, and how they lie in cells. No condition. -/
import Derived.Test.YtiefkpfamkkapaaSlG
set_option linter.unusedSimpArgs false
set_option linter.unusedVariables false
namespace Go.Sl
open Go

structure Due where
  tick : Int
  kind : Int
  id : Int
  deriving DecidableEq
def Due.enc (d : Due) : List Value := [.int .i64 d.tick, .int .i64 d.kind, .int .i64 d.id]
theorem Due.enc_len (d : Due) : d.enc.length = 3 := rfl
theorem Due.enc_one (d : Due) : ∀ v ∈ d.enc, v.oneCell' = true := List.all_eq_true.1 (rfl : d.enc.all Value.oneCell' = true)

structure Quote where
  id : Int
  ask : Int
  dealer : Int
  price : Int
  expires : Int
  live : Bool
  deriving DecidableEq
def Quote.enc (q : Quote) : List Value := [.int .i64 q.id, .int .i64 q.ask, .int .i64 q.dealer, .int .i64 q.price, .int .i64 q.expires, .bool q.live]
theorem Quote.enc_len (d : Quote) : d.enc.length = 6 := rfl
theorem Quote.enc_one (d : Quote) : ∀ v ∈ d.enc, v.oneCell' = true := List.all_eq_true.1 (rfl : d.enc.all Value.oneCell' = true)

structure AskR where
  id : Int
  client : Int
  bond : Int
  side : Int
  qty : Int
  dealers : Int
  ends : Int
  until_ : Int
  state : Int
  hit : Int
  deriving DecidableEq
def AskR.enc (a : AskR) : List Value := [.int .i64 a.id, .int .i64 a.client, .int .i64 a.bond, .int .i64 a.side, .int .i64 a.qty, .int .u64 a.dealers, .int .i64 a.ends, .int .i64 a.until_, .int .i64 a.state, .int .i64 a.hit]
theorem AskR.enc_len (d : AskR) : d.enc.length = 10 := rfl
theorem AskR.enc_one (d : AskR) : ∀ v ∈ d.enc, v.oneCell' = true := List.all_eq_true.1 (rfl : d.enc.all Value.oneCell' = true)

structure Order where
  id : Int
  seq : Int
  owner : Int
  side : Int
  price : Int
  left : Int
  deriving DecidableEq
def Order.enc (o : Order) : List Value := [.int .i64 o.id, .int .i64 o.seq, .int .i64 o.owner, .int .i64 o.side, .int .i64 o.price, .int .i64 o.left]
theorem Order.enc_len (d : Order) : d.enc.length = 6 := rfl
theorem Order.enc_one (d : Order) : ∀ v ∈ d.enc, v.oneCell' = true := List.all_eq_true.1 (rfl : d.enc.all Value.oneCell' = true)

theorem flat_take {α : Type} {enc : α → List Value} {k : Nat} (hk : ∀ x, (enc x).length = k) : ∀ (l : List α) (i : Nat), (l.flatMap enc).take (i * k) = (l.take i).flatMap enc
  | [], i => by simp
  | x :: l, 0 => by simp
  | x :: l, i + 1 => by
    simp only [List.flatMap_cons, List.take_succ_cons]
    rw [List.take_append, hk, show (i + 1) * k - k = i * k by rw [Nat.succ_mul]; omega, flat_take hk l i, List.take_of_length_le (by rw [hk, Nat.succ_mul]; omega)]
theorem flat_drop {α : Type} {enc : α → List Value} {k : Nat} (hk : ∀ x, (enc x).length = k) : ∀ (l : List α) (i : Nat), (l.flatMap enc).drop (i * k) = (l.drop i).flatMap enc
  | [], i => by simp
  | x :: l, 0 => by simp
  | x :: l, i + 1 => by
    simp only [List.flatMap_cons, List.drop_succ_cons]
    rw [List.drop_append, hk, show (i + 1) * k - k = i * k by rw [Nat.succ_mul]; omega, flat_drop hk l i, List.drop_of_length_le (by rw [hk, Nat.succ_mul]; omega), List.nil_append]

/-- the place of the first one that is such; -1: there is none -/
def idxOf {α : Type} (p : α → Bool) : List α → Int
  | [] => -1
  | x :: l => if p x then 0 else (let i := idxOf p l; if i < 0 then -1 else i + 1)

theorem idxOf_at {α : Type} {p : α → Bool} : ∀ {l : List α} {i : Nat} {x : α}, l[i]? = some x → p x = true → (∀ (j : Nat) y, j < i → l[j]? = some y → p y = false) → idxOf p l = i
  | [], i, x, h, _, _ => by simp at h
  | y :: l, 0, x, h, hp, _ => by simp at h; subst h; simp [idxOf, hp]
  | y :: l, i + 1, x, h, hp, hn => by
    have h0 := hn 0 y (by omega) rfl
    have ih := idxOf_at (p := p) (l := l) (i := i) (x := x) (by simpa using h) hp (fun j z hj hz => hn (j + 1) z (by omega) (by simpa using hz))
    have h1 : ¬ ((i : Int) < 0) := by omega
    simp [idxOf, h0, ih, h1]

theorem idxOf_none {α : Type} {p : α → Bool} : ∀ {l : List α}, (∀ (j : Nat) y, l[j]? = some y → p y = false) → idxOf p l = -1
  | [], _ => rfl
  | y :: l, hn => by
    have ih := idxOf_none (p := p) (l := l) (fun (j : Nat) z hz => hn (j + 1) z (by simpa using hz))
    simp [idxOf, hn 0 y rfl, ih]

theorem idxOf_lt {α : Type} {p : α → Bool} : ∀ {l : List α}, idxOf p l < l.length
  | [] => by simp [idxOf]
  | y :: l => by
    have ih := idxOf_lt (p := p) (l := l)
    unfold idxOf
    simp only [List.length_cons]
    split
    · omega
    · (try dsimp only); split <;> omega
theorem idxOf_ge {α : Type} {p : α → Bool} : ∀ {l : List α}, -1 ≤ idxOf p l
  | [] => by simp [idxOf]
  | y :: l => by
    have ih := idxOf_ge (p := p) (l := l)
    unfold idxOf
    split
    · omega
    · (try dsimp only); split <;> omega

theorem idxOf_neg' {α : Type} {p : α → Bool} {l : List α} : idxOf p l < 0 ↔ ∀ x ∈ l, p x = false := by
  constructor
  · intro h x hx
    induction l with
    | nil => cases hx
    | cons y l ih =>
      unfold idxOf at h
      split at h
      · omega
      · rename_i hp
        have h1 : idxOf p l < 0 := by
          simp only at h
          split at h
          · assumption
          · omega
        rcases List.mem_cons.1 hx with rfl | hx
        · simpa using hp
        · exact ih h1 hx
  · intro h
    have := idxOf_none (p := p) (l := l) (fun j y hj => h y (List.mem_of_getElem? hj))
    omega
theorem idxOf_first {α : Type} {p : α → Bool} : ∀ {l : List α} {i : Nat}, idxOf p l = (i : Int) → ∃ x, l[i]? = some x ∧ p x = true ∧ ∀ (j : Nat) y, j < i → l[j]? = some y → p y = false
  | [], i, h => by simp [idxOf] at h
  | y :: l, i, h => by
    unfold idxOf at h
    split at h
    · rename_i hp; obtain rfl : i = 0 := by omega
      exact ⟨y, rfl, hp, fun j y hj => absurd hj (Nat.not_lt_zero _)⟩
    · rename_i hp
      simp only at h
      split at h
      · omega
      · obtain ⟨k, rfl⟩ : ∃ k, i = k + 1 := ⟨i - 1, by omega⟩
        obtain ⟨x, hx, hpx, hb⟩ := idxOf_first (p := p) (l := l) (i := k) (by omega)
        refine ⟨x, by simpa using hx, hpx, fun j z hj hz => ?_⟩
        cases j with
        | zero => simp at hz; subst hz; simpa using hp
        | succ j => exact hb j z (by omega) (by simpa using hz)

/-- how many are ahead of the place that is looked for -/
def bsN {α : Type} (c : α → Int) (l : List α) : Nat := (l.takeWhile fun x => decide (c x < 0)).length
def bsB {α : Type} (c : α → Int) (l : List α) : Bool := match l[bsN c l]? with
  | some x => c x == 0
  | none => false
theorem bsN_le {α : Type} {c : α → Int} {l : List α} : bsN c l ≤ l.length := by
  unfold bsN
  exact (List.takeWhile_sublist _).length_le
theorem bsN_eq {α : Type} {c : α → Int} : ∀ {l : List α} {i : Nat}, i ≤ l.length → (∀ (k : Nat) y, k < i → l[k]? = some y → c y < 0) → (∀ y, l[i]? = some y → ¬ c y < 0) → bsN c l = i
  | [], i, h, _, _ => by simp at h; subst h; rfl
  | x :: l, 0, _, _, h2 => by
    have := h2 x rfl
    simp [bsN, List.takeWhile_cons, this]
  | x :: l, i + 1, h, h1, h2 => by
    have h0 := h1 0 x (by omega) rfl
    have ih := bsN_eq (c := c) (l := l) (i := i) (by simpa using h) (fun k y hk hy => h1 (k + 1) y (by omega) (by simpa using hy)) (fun y hy => h2 y (by simpa using hy))
    unfold bsN at *
    simp [List.takeWhile_cons, h0, ih]
theorem take_while_all {α : Type} {p : α → Bool} : ∀ {l : List α}, ∀ x ∈ l.take (l.takeWhile p).length, p x = true
  | [], x, h => by simp at h
  | y :: l, x, h => by
    by_cases hp : p y = true
    · simp only [List.takeWhile_cons, hp, if_true, List.length_cons, List.take_succ_cons, List.mem_cons] at h
      rcases h with rfl | h
      · exact hp
      · exact take_while_all x h
    · simp [List.takeWhile_cons, hp] at h

theorem drop_while_head {α : Type} {p : α → Bool} : ∀ {l : List α} {y : α} {m : List α}, l.drop (l.takeWhile p).length = y :: m → p y = false
  | [], y, m, h => by simp at h
  | x :: l, y, m, h => by
    by_cases hp : p x = true
    · simp only [List.takeWhile_cons, hp, if_true, List.length_cons, List.drop_succ_cons] at h
      exact drop_while_head h
    · simp only [List.takeWhile_cons, hp, Bool.false_eq_true, if_false, List.length_nil, List.drop_zero] at h
      injection h with h1 h2
      subst h1
      simpa using hp

/-- put where it belongs -/
theorem ins_up {α : Type} {f : α → Int} {m : List α} {q : α} (h : m.Pairwise fun a b => f a < f b) (hn : ∀ x ∈ m, f x ≠ f q) {n : Nat} (hnn : n = (m.takeWhile fun x => decide (f x < f q)).length) : (m.take n ++ [q] ++ m.drop n).Pairwise fun a b => f a < f b := by
  subst hnn
  have hl : ∀ x ∈ m.take (m.takeWhile fun x => decide (f x < f q)).length, f x < f q := fun x hx => by
    have := take_while_all (p := fun x => decide (f x < f q)) (l := m) x hx
    simpa using this
  have hsplit : m.take (m.takeWhile fun x => decide (f x < f q)).length ++ m.drop (m.takeWhile fun x => decide (f x < f q)).length = m := List.take_append_drop _ _
  have hp := h
  rw [← hsplit, List.pairwise_append] at hp
  obtain ⟨p1, p2, p3⟩ := hp
  have hr : ∀ y ∈ m.drop (m.takeWhile fun x => decide (f x < f q)).length, f q < f y := fun y hy => by
    cases hm : m.drop (m.takeWhile fun x => decide (f x < f q)).length with
    | nil => rw [hm] at hy; cases hy
    | cons z r =>
      have hz := drop_while_head (p := fun x => decide (f x < f q)) (l := m) hm
      have hzl : z ∈ m := List.mem_of_mem_drop (by rw [hm]; simp)
      have hz1 := hn z hzl
      have hdz : f q < f z := by simp at hz; omega
      rw [hm] at hy p2
      rcases List.mem_cons.1 hy with rfl | hy
      · exact hdz
      · have := List.rel_of_pairwise_cons p2 hy; omega
  rw [List.append_assoc, List.pairwise_append]
  refine ⟨p1, ?_, fun x hx y hy => ?_⟩
  · rw [List.singleton_append, List.pairwise_cons]
    exact ⟨hr, p2⟩
  · rw [List.singleton_append] at hy
    rcases List.mem_cons.1 hy with rfl | hy
    · exact hl x hx
    · exact p3 x hx y hy
theorem ins_perm {α : Type} (l : List α) (q : α) (i : Nat) : (l.take i ++ [q] ++ l.drop i).Perm (q :: l) := by
  rw [List.append_assoc, List.singleton_append]
  exact List.perm_middle.trans (by rw [List.take_append_drop])
end Go.Sl
