/- The statement's walk, and what it stands on, joined into few texts: part 1. Conditions stand in each statement. -/
import Derived.Maps.AppendAt
import Derived.Laws.CopyOwn
import Derived.Laws.MakeOwn
import Derived.Laws.StructEq
import Derived.Deep.Quiet
import Derived.Below
import Derived.Tactics
import Derived.IntWalk
import Derived.Lib.Overlaps
import Derived.Test.YtjcnaeengplcbaaGreatRows
import Derived.OpenShut
import Derived.ChangeSame
import Derived.ProofKit
import Derived.WideKeyArgs
import Derived.Deep.Slices
import Derived.Deep.Fields
import Derived.Test.YtjcnaeengplcbaaGreatChecked
import Derived.KernelRfl
import Derived.MapKept
import Derived.Shelf.SlSortCmp.NoneTotal
import Derived.Ground.SlsfProg
import Derived.WalkKit
import Derived.Sort.Grow
import Derived.Lib.Mul64
import Derived.Laws.Bits64b
import Derived.Test.YtjcnaeengplcbaaGreatBndBooks0
set_option linter.unusedSimpArgs false
set_option linter.unusedVariables false
namespace Go.Sl
open Go

structure Due where
  tick : Int
  kind : Int
  id : Int
  deriving DecidableEq
def Due.enc (d : Due) : List Value := [.int .i64 d.tick, .int .i64 d.kind, .int .i64 d.id]
theorem Due.enc_len (d : Due) : d.enc.length = 3 := rfl
theorem Due.enc_one (d : Due) : ∀ v ∈ d.enc, v.oneCell' = true := List.all_eq_true.1 (rfl : d.enc.all Value.oneCell' = true)

structure Quote where
  id : Int
  ask : Int
  dealer : Int
  price : Int
  expires : Int
  live : Bool
  deriving DecidableEq
def Quote.enc (q : Quote) : List Value := [.int .i64 q.id, .int .i64 q.ask, .int .i64 q.dealer, .int .i64 q.price, .int .i64 q.expires, .bool q.live]
theorem Quote.enc_len (d : Quote) : d.enc.length = 6 := rfl
theorem Quote.enc_one (d : Quote) : ∀ v ∈ d.enc, v.oneCell' = true := List.all_eq_true.1 (rfl : d.enc.all Value.oneCell' = true)

structure AskR where
  id : Int
  client : Int
  bond : Int
  side : Int
  qty : Int
  dealers : Int
  ends : Int
  until_ : Int
  state : Int
  hit : Int
  deriving DecidableEq
def AskR.enc (a : AskR) : List Value := [.int .i64 a.id, .int .i64 a.client, .int .i64 a.bond, .int .i64 a.side, .int .i64 a.qty, .int .u64 a.dealers, .int .i64 a.ends, .int .i64 a.until_, .int .i64 a.state, .int .i64 a.hit]
theorem AskR.enc_len (d : AskR) : d.enc.length = 10 := rfl
theorem AskR.enc_one (d : AskR) : ∀ v ∈ d.enc, v.oneCell' = true := List.all_eq_true.1 (rfl : d.enc.all Value.oneCell' = true)

structure Order where
  id : Int
  seq : Int
  owner : Int
  side : Int
  price : Int
  left : Int
  deriving DecidableEq
def Order.enc (o : Order) : List Value := [.int .i64 o.id, .int .i64 o.seq, .int .i64 o.owner, .int .i64 o.side, .int .i64 o.price, .int .i64 o.left]
theorem Order.enc_len (d : Order) : d.enc.length = 6 := rfl
theorem Order.enc_one (d : Order) : ∀ v ∈ d.enc, v.oneCell' = true := List.all_eq_true.1 (rfl : d.enc.all Value.oneCell' = true)

theorem flat_take {α : Type} {enc : α → List Value} {k : Nat} (hk : ∀ x, (enc x).length = k) : ∀ (l : List α) (i : Nat), (l.flatMap enc).take (i * k) = (l.take i).flatMap enc
  | [], i => by simp
  | x :: l, 0 => by simp
  | x :: l, i + 1 => by
    simp only [List.flatMap_cons, List.take_succ_cons]
    rw [List.take_append, hk, show (i + 1) * k - k = i * k by rw [Nat.succ_mul]; omega, flat_take hk l i, List.take_of_length_le (by rw [hk, Nat.succ_mul]; omega)]
theorem flat_drop {α : Type} {enc : α → List Value} {k : Nat} (hk : ∀ x, (enc x).length = k) : ∀ (l : List α) (i : Nat), (l.flatMap enc).drop (i * k) = (l.drop i).flatMap enc
  | [], i => by simp
  | x :: l, 0 => by simp
  | x :: l, i + 1 => by
    simp only [List.flatMap_cons, List.drop_succ_cons]
    rw [List.drop_append, hk, show (i + 1) * k - k = i * k by rw [Nat.succ_mul]; omega, flat_drop hk l i, List.drop_of_length_le (by rw [hk, Nat.succ_mul]; omega), List.nil_append]

/-- the place of the first one that is such; -1: there is none -/
def idxOf {α : Type} (p : α → Bool) : List α → Int
  | [] => -1
  | x :: l => if p x then 0 else (let i := idxOf p l; if i < 0 then -1 else i + 1)

theorem idxOf_at {α : Type} {p : α → Bool} : ∀ {l : List α} {i : Nat} {x : α}, l[i]? = some x → p x = true → (∀ (j : Nat) y, j < i → l[j]? = some y → p y = false) → idxOf p l = i
  | [], i, x, h, _, _ => by simp at h
  | y :: l, 0, x, h, hp, _ => by simp at h; subst h; simp [idxOf, hp]
  | y :: l, i + 1, x, h, hp, hn => by
    have h0 := hn 0 y (by omega) rfl
    have ih := idxOf_at (p := p) (l := l) (i := i) (x := x) (by simpa using h) hp (fun j z hj hz => hn (j + 1) z (by omega) (by simpa using hz))
    have h1 : ¬ ((i : Int) < 0) := by omega
    simp [idxOf, h0, ih, h1]

theorem idxOf_none {α : Type} {p : α → Bool} : ∀ {l : List α}, (∀ (j : Nat) y, l[j]? = some y → p y = false) → idxOf p l = -1
  | [], _ => rfl
  | y :: l, hn => by
    have ih := idxOf_none (p := p) (l := l) (fun (j : Nat) z hz => hn (j + 1) z (by simpa using hz))
    simp [idxOf, hn 0 y rfl, ih]

theorem idxOf_ge {α : Type} {p : α → Bool} : ∀ {l : List α}, -1 ≤ idxOf p l
  | [] => by simp [idxOf]
  | y :: l => by
    have ih := idxOf_ge (p := p) (l := l)
    unfold idxOf
    split
    · omega
    · (try dsimp only); split <;> omega

theorem idxOf_neg' {α : Type} {p : α → Bool} {l : List α} : idxOf p l < 0 ↔ ∀ x ∈ l, p x = false := by
  constructor
  · intro h x hx
    induction l with
    | nil => cases hx
    | cons y l ih =>
      unfold idxOf at h
      split at h
      · omega
      · rename_i hp
        have h1 : idxOf p l < 0 := by
          simp only at h
          split at h
          · assumption
          · omega
        rcases List.mem_cons.1 hx with rfl | hx
        · simpa using hp
        · exact ih h1 hx
  · intro h
    have := idxOf_none (p := p) (l := l) (fun j y hj => h y (List.mem_of_getElem? hj))
    omega
theorem idxOf_first {α : Type} {p : α → Bool} : ∀ {l : List α} {i : Nat}, idxOf p l = (i : Int) → ∃ x, l[i]? = some x ∧ p x = true ∧ ∀ (j : Nat) y, j < i → l[j]? = some y → p y = false
  | [], i, h => by simp [idxOf] at h
  | y :: l, i, h => by
    unfold idxOf at h
    split at h
    · rename_i hp; obtain rfl : i = 0 := by omega
      exact ⟨y, rfl, hp, fun j y hj => absurd hj (Nat.not_lt_zero _)⟩
    · rename_i hp
      simp only at h
      split at h
      · omega
      · obtain ⟨k, rfl⟩ : ∃ k, i = k + 1 := ⟨i - 1, by omega⟩
        obtain ⟨x, hx, hpx, hb⟩ := idxOf_first (p := p) (l := l) (i := k) (by omega)
        refine ⟨x, by simpa using hx, hpx, fun j z hj hz => ?_⟩
        cases j with
        | zero => simp at hz; subst hz; simpa using hp
        | succ j => exact hb j z (by omega) (by simpa using hz)

theorem take_while_all {α : Type} {p : α → Bool} : ∀ {l : List α}, ∀ x ∈ l.take (l.takeWhile p).length, p x = true
  | [], x, h => by simp at h
  | y :: l, x, h => by
    by_cases hp : p y = true
    · simp only [List.takeWhile_cons, hp, if_true, List.length_cons, List.take_succ_cons, List.mem_cons] at h
      rcases h with rfl | h
      · exact hp
      · exact take_while_all x h
    · simp [List.takeWhile_cons, hp] at h

theorem drop_while_head {α : Type} {p : α → Bool} : ∀ {l : List α} {y : α} {m : List α}, l.drop (l.takeWhile p).length = y :: m → p y = false
  | [], y, m, h => by simp at h
  | x :: l, y, m, h => by
    by_cases hp : p x = true
    · simp only [List.takeWhile_cons, hp, if_true, List.length_cons, List.drop_succ_cons] at h
      exact drop_while_head h
    · simp only [List.takeWhile_cons, hp, Bool.false_eq_true, if_false, List.length_nil, List.drop_zero] at h
      injection h with h1 h2
      subst h1
      simpa using hp

theorem ins_perm {α : Type} (l : List α) (q : α) (i : Nat) : (l.take i ++ [q] ++ l.drop i).Perm (q :: l) := by
  rw [List.append_assoc, List.singleton_append]
  exact List.perm_middle.trans (by rw [List.take_append_drop])
end Go.Sl

set_option linter.unusedSimpArgs false
set_option linter.unusedVariables false
namespace Go.Sl
open Go Go.RowKit

section
variable {P : Program} {W : World} {T : Tab} {N : Nat} {env env' : Env} {h h' h2 : List Chunk} {kf : KF} {ops : Array Oper} {K : Env → List Chunk → Prop} {o : Oper} {rest : List Oper}

theorem es_rem {b : Bool} {e f : Int} {k : IntKind} {d : Tmp} {t yt : TypeId} {x y : Operand} {ty pos af g} (hg : evalG ops env g = some b) (hb : b = true) (hd : Nat.blt d N = true) (hx : evalE env x = some (.int k e)) (hy : evalE env y = some (.int k f)) (he : 0 ≤ e) (hf : 0 < f)
    (hK : ES P W N kf ops rest ((d, .int k (e % f)) :: env) h K) : ES P W N kf ops (⟨some d, .binOp .rem t x y yt, ty, pos, af, g⟩ :: rest) env h K :=
  es_run hg hb hd (fun a ha w => by
    have h1 : f ≠ 0 := by omega
    simp [execOp, ha.eval hx, ha.eval hy, eqGuard, binOp, Op.intDiv, h1, Int.tmod_eq_emod_of_nonneg he]) hK

/-! ### structs that are compared -/
def eqCell (T : Tab) (t : TypeId) (x y : Value) : Option Bool :=
  match T.lookup t with
  | some ⟨.int _, _, _, _⟩ => match x, y with
    | .int k a, .int k' b => if k = k' then some (a == b) else none
    | _, _ => none
  | some ⟨.bool, _, _, _⟩ => match x, y with
    | .bool a, .bool b => some (a == b)
    | _, _ => none
  | _ => none

def eqFs (T : Tab) (xs ys : List Value) : List Field → Option Bool
  | [] => some true
  | f :: fs => if f.name = "_" then none else
    match xs[f.offset]?, ys[f.offset]? with
    | some u, some v => match eqCell T f.type u v, eqFs T xs ys fs with
      | some a, some b => some (a && b)
      | _, _ => none
    | _, _ => none

def eqSt (T : Tab) (t : TypeId) (xs ys : Array Value) : Option Bool :=
  match T.lookup t with
  | some ⟨.struct fs, _, _, _⟩ => eqFs T xs.toList ys.toList fs.toList
  | _ => none

theorem eqCell_run (hT : TabOK P T) {t : TypeId} {x y : Value} {b : Bool} (he : eqCell T t x y = some b) (d : Nat) (w : World) : (Op.equalIn (d + 1) t x y).run P w = .ok b w ∧ (∃ ti, T.lookup t = some ti ∧ isAggD ti.desc = false) := by
  unfold eqCell at he
  split at he
  · rename_i k s bb z hl
    have g := (hT _ _ hl).und
    split at he
    · split at he
      · rename_i hk
        injection he with he
        subst he hk
        refine ⟨?_, _, hl, rfl⟩
        rw [Op.equalIn]
        simp only [Sem.run_bind, g, Result.andThen_ok, if_true, Sem.run_pure]
      · cases he
    · cases he
  · rename_i s bb z hl
    have g := (hT _ _ hl).und
    split at he
    · injection he with he
      subst he
      refine ⟨?_, _, hl, rfl⟩
      rw [Op.equalIn]
      simp only [Sem.run_bind, g, Result.andThen_ok, Sem.run_pure]
    · cases he
  · cases he

theorem eqFs_run (hT : TabOK P T) {xs ys : Array Value} (d : Nat) : ∀ {fs : List Field} {b : Bool}, eqFs T xs.toList ys.toList fs = some b → ∀ w : World, (Op.eqFields (d + 1) xs ys fs).run P w = .ok b w
  | [], b, he, w => by simp [eqFs] at he; simp [Op.eqFields, he]
  | f :: fs, b, he, w => by
    unfold eqFs at he
    split at he
    · cases he
    · rename_i hn
      split at he
      · rename_i u v hu hv
        split at he
        · rename_i a1 b1 h1 h2
          injection he with he
          subst he
          obtain ⟨h3, ti, hl, hag⟩ := eqCell_run hT h1 d w
          have ih := eqFs_run hT d h2 w
          have p1 : (part f.type xs f.offset).run P w = .ok u w := part_run hT (by simp only [partV, hl, hag]; simpa using hu) w
          have p2 : (part f.type ys f.offset).run P w = .ok v w := part_run hT (by simp only [partV, hl, hag]; simpa using hv) w
          unfold Op.eqFields
          rw [if_pos hn]
          simp only [Sem.run_bind, p1, p2, Result.andThen_ok, h3]
          cases a1
          · simp
          · simp [ih]
        · cases he
      · cases he

def structOK (P : Program) (t : TypeId) : Prop := P.stoodInHeld t = false ∧ P.eqGuardType P.depth t = false

theorem eqSt_run (hT : TabOK P T) {t : TypeId} {xs ys : Array Value} {b : Bool} (hs : structOK P t) (he : eqSt T t xs ys = some b) (w : World) : (Op.equalIn 10000 t (.agg xs) (.agg ys)).run P w = .ok b w := by
  unfold eqSt at he
  split at he
  · rename_i fs s bb z hl
    have hu : P.underlying t = some (.struct fs) := (hT _ _ hl).1
    have hf : P.fieldsOf t = fs := by simp [Program.fieldsOf, hu]
    rw [show (10000 : Nat) = 9999 + 1 from rfl, run_equalIn_struct w 9999 t xs ys (by rw [hf]; exact hu) hs.1, hf]
    exact eqFs_run hT 9998 he w
  · cases he

theorem es_neS (hT : TabOK P T) {b r : Bool} {d : Tmp} {t yt : TypeId} {x y : Operand} {xs ys : Array Value} {ty pos af g} (hg : evalG ops env g = some b) (hb : b = true) (hd : Nat.blt d N = true) (hx : evalE env x = some (.agg xs)) (hy : evalE env y = some (.agg ys)) (he : eqSt T t xs ys = some r) (hs : structOK P t)
    (hK : ES P W N kf ops rest ((d, .bool (!r)) :: env) h K) : ES P W N kf ops (⟨some d, .binOp .neq t x y yt, ty, pos, af, g⟩ :: rest) env h K :=
  es_run hg hb hd (fun a ha w => by
    have h1 := eqSt_run hT hs he w
    simp only [execOp, ha.eval hx, ha.eval hy, Sem.run_bind, run_eqGuard_agg w .neq t x y xs ys hs.2, Result.andThen_ok, run_neq_struct, h1, Sem.run_pure]) hK
end

/-- one element of a row turned -/
theorem flat_lay {α : Type} {enc : α → List Value} {k : Nat} (hk : ∀ x, (enc x).length = k) : ∀ {l : List α} {i f : Nat} {x x' : α} {vs : List Value}, l[i]? = some x → f + vs.length ≤ k → enc x' = lay (enc x) f vs → lay (l.flatMap enc) (i * k + f) vs = (l.set i x').flatMap enc
  | [], i, f, x, x', vs, h, _, _ => by simp at h
  | y :: l, 0, f, x, x', vs, h, hf, he => by
    simp at h; subst h
    simp only [List.set_cons_zero, List.flatMap_cons, he, lay, Nat.zero_mul, Nat.zero_add]
    rw [List.take_append_of_le_length (by rw [hk]; omega), List.drop_append_of_le_length (by rw [hk]; omega)]
    simp
  | y :: l, i + 1, f, x, x', vs, h, hf, he => by
    have ih := flat_lay hk (l := l) (i := i) (f := f) (x' := x') (vs := vs) (by simpa using h) hf he
    simp only [List.set_cons_succ, List.flatMap_cons, ← ih, lay]
    have e : (i + 1) * k + f = (enc y).length + (i * k + f) := by rw [hk, Nat.succ_mul]; omega
    rw [e, List.take_length_add_append, show (enc y).length + (i * k + f) + vs.length = (enc y).length + (i * k + f + vs.length) by omega, List.drop_length_add_append]
    simp

/-- what a row that is owned is -/
structure OwnF (A : Option Addr) (n c k : Nat) (cs : List Value) : Prop where
  len : cs.length = n * k
  nc : n ≤ c
  cc : c ≤ 9223372036854775807
  some_ : 0 < n → A.isSome = true
  at_ : 0 < n → ∃ g, A = some ⟨g, 0, none⟩
  none_ : A = none → c = 0
  one : ∀ v ∈ cs, v.oneCell' = true
theorem Rep.ownF {W w : World} {h : List Chunk} (hw : Rep W h w) {A : Option Addr} {n cc k : Nat} {e : TypeId} {cs : List Value} (hm : Chunk.own A n cc e k cs ∈ h) : OwnF A n cc k cs := by
  have ho := hw.holds _ hm
  have hat : 0 < n → ∃ g, A = some ⟨g, 0, none⟩ := by
    intro h0
    rcases ho.1.2 with ⟨hv, hn⟩ | ⟨g', cap, cur, hv, _⟩
    · omega
    · injection hv with hA _ _; exact ⟨g', hA⟩
  refine ⟨ho.1.1, ?_, ?_, fun h0 => by obtain ⟨g, hg⟩ := hat h0; rw [hg]; rfl, hat, ?_, ho.2⟩
  · rcases ho.1.2 with ⟨hv, hn⟩ | ⟨g', cap, cur, hv, hb, hg, hnc, _⟩ <;> injection hv <;> omega
  · rcases ho.1.2 with ⟨hv, hn⟩ | ⟨g', cap, cur, hv, hb, hg, hnc, hcm, _⟩ <;> injection hv with _ _ hcc
    · omega
    · simp only [maxLen] at hcm; omega
  · intro hA
    rcases ho.1.2 with ⟨hv, hn⟩ | ⟨g', cap, cur, hv, _⟩
    · injection hv
    · injection hv with hA' _ _; rw [hA] at hA'; cases hA'
theorem OwnF.reads {W : World} {h : List Chunk} {A n c k cs} {t : TypeId} (ho : OwnF A n c k cs) (hm : Chunk.own A n c t k cs ∈ h) : Reads W h A n k cs := Reads.own hm ho.len ho.one

theorem dt_app {h J k : List Chunk} (hd : DropTo h k) : DropTo (J ++ h) k := let ⟨J2, p⟩ := hd; ⟨J ++ J2, by rw [List.append_assoc]; exact p.append_left J⟩
theorem dt_mid {h F B : List Chunk} {c : Chunk} (hd : DropTo h (c :: (F ++ B))) : DropTo h (F ++ c :: B) := let ⟨J, p⟩ := hd; ⟨J, p.trans (List.perm_middle.symm.append_left J)⟩
theorem FSpec.dropF {P : Program} {W : World} {f : FuncId} {args : List Value} {h : List Chunk} {R : Value → List Chunk → Prop} (hs : FSpec P W f args h fun v h' => ∃ k, DropTo h' k ∧ ∀ w, Rep W k w → R v k) : FSpec P W f args h R :=
  FSpec.conv hs fun _ _ ⟨k, hd, hr⟩ w hw => ⟨k, hd.rep hw, hr w (hd.rep hw)⟩
theorem loopq_end {α : Type} {E : α → Env} {H : α → List Chunk} {μ : α → Nat} {S : α → Prop} {x : α} {Q : Exit → Env → List Chunk → Prop} {env : Env} {h : List Chunk} (y : α) (h1 : μ y < μ x) (h2 : S y) (h3 : Sub env (E y)) (h4 : DropTo h (H y)) : LoopQ E H μ S x Q .normal env h :=
  let ⟨J, p⟩ := h4; ⟨y, J, h1, h2, h3, p⟩
theorem dt_perm {h k : List Chunk} (hp : h.Perm k) : DropTo h k := ⟨[], hp⟩
end Go.Sl

set_option linter.unusedSimpArgs false
set_option linter.unusedVariables false
namespace Go.Sl
open Go Go.RowKit Go.ChangeShapes Go.WideShapes

/-! ### leaves -/
inductive Leaf where
  | int (k : IntKind)
  | bool
  deriving DecidableEq

def Leaf.fits : Leaf → Value → Prop
  | .int k, v => ∃ n, v = .int k n ∧ (Lit.int k n).wf = true
  | .bool, v => ∃ b, v = .bool b

def FitsL : List Leaf → List Value → Prop
  | [], [] => True
  | l :: ls, v :: vs => l.fits v ∧ FitsL ls vs
  | _, _ => False

theorem FitsL.len : ∀ {ls : List Leaf} {vs : List Value}, FitsL ls vs → vs.length = ls.length
  | [], [], _ => rfl
  | l :: ls, v :: vs, h => by simp [FitsL.len h.2]
theorem FitsL.app : ∀ {ls ms : List Leaf} {vs us : List Value}, FitsL ls vs → FitsL ms us → FitsL (ls ++ ms) (vs ++ us)
  | [], _, [], _, _, h => h
  | l :: ls, _, v :: vs, _, h, h2 => ⟨h.1, FitsL.app h.2 h2⟩
theorem FitsL.one : ∀ {ls : List Leaf} {vs : List Value}, FitsL ls vs → ∀ v ∈ vs, v.oneCell' = true
  | [], [], _, v, hv => by cases hv
  | l :: ls, u :: vs, h, v, hv => by
    rcases List.mem_cons.1 hv with rfl | hv
    · cases l with
      | int k => obtain ⟨n, rfl, _⟩ := h.1; rfl
      | bool => obtain ⟨b, rfl⟩ := h.1; rfl
    · exact FitsL.one h.2 v hv

def leafFs (P : Program) (lf : TypeId → Option (List Leaf)) : List Field → Nat → Option (List Leaf)
  | [], _ => some []
  | f :: fs, o => if f.offset = o then match lf f.type with
      | some l => if P.cellsOf f.type = l.length then (match leafFs P lf fs (o + l.length) with
        | some m => some (l ++ m)
        | none => none) else none
      | none => none
    else none

def leafs (P : Program) : Nat → TypeId → Option (List Leaf)
  | 0, _ => none
  | n + 1, t => match P.underlying t with
    | some (.int k) => some [.int k]
    | some .bool => some [.bool]
    | some (.struct fs) => leafFs P (leafs P n) fs.toList 0
    | some (.array m e) => match leafs P n e with
      | some l => if P.cellsOf e = l.length then some ((List.replicate m l).flatten) else none
      | none => none
    | _ => none

section
variable {H : Type} {enc : TypeId × Value → H} {P : Program} {w : World} {base : Nat} {spare : Nat → Bool} {held : Bool}

theorem drop_take_cat {α : Type} (cs : List α) (o n : Nat) : cs.drop o = (cs.drop o).take n ++ cs.drop (o + n) := by
  rw [← List.drop_drop, List.take_append_drop]

theorem leafFs_fits {lf : TypeId → Option (List Leaf)} {cs : List Value} {m : Nat}
    (hlf : ∀ t l cs' x, lf t = some l → cs'.length = l.length → DataW.trod enc P w base spare held m t cs' = some x → FitsL l cs') :
    ∀ (fs : List Field) (o : Nat) (ls : List Leaf), leafFs P lf fs o = some ls → cs.length = o + ls.length →
      (∀ f ∈ fs, ∃ x, DataW.trod enc P w base spare held m f.type ((cs.drop f.offset).take (P.cellsOf f.type)) = some x) → FitsL ls (cs.drop o)
  | [], o, ls, hl, hlen, _ => by
    simp only [leafFs, Option.some.injEq] at hl
    subst hl
    rw [List.drop_of_length_le (by simp at hlen; omega)]
    trivial
  | f :: fs, o, ls, hl, hlen, hx => by
    unfold leafFs at hl
    split at hl
    · rename_i ho
      split at hl
      · rename_i l h1
        split at hl
        · rename_i h2
          split at hl
          · rename_i k h3
            injection hl with hl
            subst hl
            rw [List.length_append] at hlen
            obtain ⟨x, hx1⟩ := hx f (by simp)
            rw [ho, h2] at hx1
            rw [drop_take_cat cs o l.length]
            exact (hlf _ _ _ _ h1 (by simp; omega) hx1).app (leafFs_fits hlf fs (o + l.length) k h3 (by omega) (fun g hg => hx g (by simp [hg])))
          · cases hl
        · cases hl
      · cases hl
    · cases hl

theorem fits_rep {l : List Leaf} {cs : List Value} : ∀ (m : Nat), cs.length = m * l.length → (∀ i, i < m → FitsL l ((cs.drop (i * l.length)).take l.length)) → FitsL ((List.replicate m l).flatten) cs := by
  intro m
  induction m generalizing cs with
  | zero =>
    intro h _
    have : cs = [] := List.length_eq_zero_iff.1 (by simpa using h)
    subst this
    trivial
  | succ m ih =>
    intro h hi
    rw [List.replicate_succ, List.flatten_cons, ← List.take_append_drop l.length cs]
    have h0 := hi 0 (by omega)
    simp only [Nat.zero_mul, List.drop_zero] at h0
    refine h0.app (ih (by rw [List.length_drop, h, Nat.succ_mul]; omega) (fun i him => ?_))
    have := hi (i + 1) (by omega)
    rw [List.drop_drop]
    rwa [show l.length + i * l.length = (i + 1) * l.length by rw [Nat.succ_mul]; omega]

theorem leafs_fits : ∀ (n fuel : Nat) (t : TypeId) (ls : List Leaf) (cs : List Value) (x : DataW H × List MemPlace), leafs P n t = some ls → cs.length = ls.length → DataW.trod enc P w base spare held fuel t cs = some x → FitsL ls cs
  | 0, _, _, _, _, _, h, _, _ => by cases h
  | n + 1, fuel, t, ls, cs, x, h, hlen, hd => by
    unfold leafs at h
    split at h
    · rename_i k ht
      injection h with h; subst h
      obtain ⟨m, rfl, _, hw⟩ := DataW.trod_int ht hd
      exact ⟨⟨m, rfl, hw⟩, trivial⟩
    · rename_i ht
      injection h with h; subst h
      obtain ⟨b, rfl, _⟩ := DataW.trod_bool ht hd
      exact ⟨⟨b, rfl⟩, trivial⟩
    · rename_i fs ht
      obtain ⟨xs, m, rfl, _, _, hxl, hf⟩ := DataW.trod_struct ht hd
      have := leafFs_fits (enc := enc) (P := P) (w := w) (base := base) (spare := spare) (held := held) (cs := cs) (m := m) (fun t l cs' x h1 h2 h3 => leafs_fits n m t l cs' x h1 h2 h3) fs.toList 0 ls h (by omega) (fun f hfm => by
        obtain ⟨i, hi⟩ := List.getElem?_of_mem hfm
        rw [Array.getElem?_toList] at hi
        have h1 := hf i f hi
        have hil : i < xs.length := by rw [hxl]; exact (Array.getElem?_eq_some_iff.1 hi).1
        exact ⟨xs[i], by rw [h1, List.getElem?_eq_getElem hil]⟩)
      simpa using this
    · rename_i m e ht
      split at h
      · rename_i l hl
        split at h
        · rename_i hc
          injection h with h; subst h
          obtain ⟨xs, k, rfl, _, _, hxl, hf⟩ := DataW.trod_array ht hd
          have hcl : cs.length = m * l.length := by rw [hlen]; simp
          refine fits_rep m hcl (fun i hi => ?_)
          have h1 := hf i hi
          rw [hc] at h1
          have hil : i < xs.length := by omega
          refine leafs_fits n k e l _ xs[i] hl ?_ (by rw [h1, List.getElem?_eq_getElem hil])
          have : (i + 1) * l.length ≤ m * l.length := Nat.mul_le_mul_right _ (by omega)
          rw [Nat.succ_mul] at this
          simp; omega
        · cases h
      · cases h
    · cases h
end

theorem reads_W {W : World} {a : Addr} {n k : Nat} {cs : List Value} (hl : cs.length = n * k) (h1 : ∀ v ∈ cs, v.oneCell' = true) (hc : ∀ j v, cs[j]? = some v → W.cell? (a.add j) = some v) : Reads W [] (some a) n k cs :=
  ⟨hl, h1, fun w hw j v hj => ⟨rfl, by
    have h2 := hc j v hj
    show w.cell? (a.add j) = some v
    rw [hw.below.cell (World.block_lt_of_cell? W _ h2), h2]⟩⟩

/-- rows of cells, each as its leaves say, read as a list -/
theorem rows_list {α : Type} {en : α → List Value} {ok : α → Prop} {ls : List Leaf} (hdec : ∀ vs, FitsL ls vs → ∃ x, en x = vs ∧ ok x) (R : Nat → List Value) :
    ∀ (n : Nat), (∀ i, i < n → FitsL ls (R i)) → ∃ l : List α, l.length = n ∧ (∀ x ∈ l, ok x) ∧ l.flatMap en = (List.range n).flatMap R
  | 0, _ => ⟨[], rfl, (fun x h => by cases h), rfl⟩
  | n + 1, h => by
    obtain ⟨l, h1, h2, h3⟩ := rows_list hdec R n (fun i hi => h i (by omega))
    obtain ⟨x, hx1, hx2⟩ := hdec _ (h n (by omega))
    refine ⟨l ++ [x], by simp [h1], fun y hy => ?_, ?_⟩
    · rcases List.mem_append.1 hy with hy | hy
      · exact h2 y hy
      · rw [List.mem_singleton.1 hy]; exact hx2
    · rw [List.flatMap_append, h3, List.range_succ, List.flatMap_append]; simp [hx1]

section
variable {H : Type} {enc : TypeId × Value → H} {P : Program} {W : World}

/-- an argument that is a slice -/
theorem open_rows {t e : TypeId} {ls : List Leaf} {α : Type} {en : α → List Value} {ok : α → Prop} {r : Reach} {b0 : Nat} {v : Value} {d : DataW H} {p : List MemPlace} (N : Nat) (ht : P.underlying t = some (.slice e)) (hl : leafs P N e = some ls) (hC : P.cellsOf e = ls.length)
    (hdec : ∀ vs, FitsL ls vs → ∃ x, en x = vs ∧ ok x) (hval : Value.okWide P W r b0 t v) (h : DataW.Trod enc P W 0 (fun _ => true) true t v d p) :
    ∃ A c, ∃ l : List α, v = .slice A l.length c ∧ l.length ≤ c ∧ (∀ x ∈ l, ok x) ∧ Reads W [] A l.length ls.length (l.flatMap en) := by
  obtain ⟨A, n, c, rfl⟩ := okWide_slice ht hval
  obtain ⟨fuel, hf⟩ := h
  rcases Go.Deep.open_slice ht hf with ⟨h0, _⟩ | ⟨a, len, cap, m, k, D, Pl, hcs, _, hlc, hcm, hm, _, hi⟩
  · injection h0 with h0 _
    injection h0 with h1 h2 h3
    subst h1 h2 h3
    exact ⟨none, 0, [], rfl, Nat.le_refl _, fun x hx => (by cases hx), by simpa using Reads.none_⟩
  · injection hcs with h0 _
    injection h0 with h1 h2 h3
    subst h1 h2 h3
    simp only [if_true] at hm
    subst hm
    have hrow : ∀ i, i < n → ∃ cs', FitsL ls cs' ∧ ∀ j, j < ls.length → W.cell? (a.add (i * ls.length + j)) = cs'[j]? := fun i hin => by
      obtain ⟨cs', hc, ht'⟩ := hi i (by omega)
      rw [hC] at hc
      obtain ⟨_, hcl, hat⟩ := World.cells?_some hc
      refine ⟨cs', leafs_fits N k e ls cs' _ hl hcl ht', fun j hj => ?_⟩
      rw [← Go.Deep.add_add]
      exact hat j hj
    let R : Nat → List Value := fun i => if hin : i < n then Classical.choose (hrow i hin) else []
    have hR : ∀ i (hin : i < n), FitsL ls (R i) ∧ ∀ j, j < ls.length → W.cell? (a.add (i * ls.length + j)) = (R i)[j]? := fun i hin => by
      have := Classical.choose_spec (hrow i hin)
      simp only [R, hin, dif_pos]
      exact this
    obtain ⟨l, l1, l2, l3⟩ := rows_list hdec R n (fun i hin => (hR i hin).1)
    subst l1
    have hlen : ∀ m, m ≤ l.length → ((List.range m).flatMap R).length = m * ls.length := by
      intro m
      induction m with
      | zero => intro _; simp
      | succ m ih => intro hm; rw [List.range_succ, List.flatMap_append, List.length_append, ih (by omega), Nat.succ_mul]; simp [(hR m (by omega)).1.len]
    have hone : ∀ v ∈ (List.range l.length).flatMap R, v.oneCell' = true := fun v hv => by
      obtain ⟨i, hin, hv⟩ := List.mem_flatMap.1 hv
      exact (hR i (List.mem_range.1 hin)).1.one v hv
    have hat : ∀ m, m ≤ l.length → ∀ j v, ((List.range m).flatMap R)[j]? = some v → W.cell? (a.add j) = some v := by
      intro m
      induction m with
      | zero => intro _ j v hj; simp at hj
      | succ m ih =>
        intro hm j v hj
        rw [List.range_succ, List.flatMap_append] at hj
        rcases Nat.lt_or_ge j ((List.range m).flatMap R).length with hlt | hge
        · rw [List.getElem?_append_left hlt] at hj
          exact ih (by omega) j v hj
        · rw [List.getElem?_append_right hge] at hj
          have e := hlen m (by omega)
          rw [e] at hj hge
          simp only [List.flatMap_cons, List.flatMap_nil, List.append_nil] at hj
          have hjl : j - m * ls.length < ls.length := by
            have := (List.getElem?_eq_some_iff.1 hj).1
            rw [(hR m (by omega)).1.len] at this
            exact this
          have h2 := (hR m (by omega)).2 _ hjl
          rw [show m * ls.length + (j - m * ls.length) = j by omega] at h2
          rw [h2, hj]
    refine ⟨some a, _, l, rfl, hlc, l2, ?_⟩
    rw [l3]
    exact reads_W (hlen _ (Nat.le_refl _)) hone (hat _ (Nat.le_refl _))

theorem trodAll_stays (hl : laidOutB P = true) {W' : World} {sp : Nat → Bool} (hb : Below W.heap.size W W') : ∀ {ts : List TypeId} {vs : List Value} {ds : List (DataW H)} {ps : List MemPlace},
    (∀ t ∈ ts, P.readableRec t = true ∧ t < P.types.size) → DataW.TrodAll enc P W 0 (fun _ => true) true ts vs ds ps → (∀ x ∈ ps, x.block < W.heap.size) → (∀ x ∈ ps, sp x.block = true) → DataW.TrodAll enc P W' 0 sp true ts vs ds ps
  | [], _, _, _, _, h, _, _ => by
    obtain ⟨rfl, rfl, rfl⟩ := trodAll_nil h
    exact trodAll_mk0
  | t :: ts, _, _, _, hr, h, hlt, hsp => by
    obtain ⟨v, vs', d, ds', p, q, rfl, rfl, rfl, h1, h2⟩ := trodAll_cons h
    exact trodAll_cons_mk (WideElems.Trod_stays hl (hr t (by simp)).1 (hr t (by simp)).2 h1 (fun x hx => hb.same (hlt x (by simp [hx]))) (fun x hx => hsp x (by simp [hx])))
      (trodAll_stays hl hb (fun u hu => hr u (by simp [hu])) h2 (fun x hx => hlt x (by simp [hx])) (fun x hx => hsp x (by simp [hx])))

/-- the row's answer: the call says true and has turned nothing that was there -/
theorem law_post {f : Func} {s : ChangeSpec} {apart fresh handsOn again : Bool} {W' : World} {args : Array Value} {ds : List (DataW H)} {before : List MemPlace} {tb : TypeId}
    (hW : DataW.Whole enc P f.params.toList s.vars apart W args.toList ds [] before) (hA : DataW.TrodAll enc P W 0 (fun _ => true) true f.params.toList args.toList ds before)
    (hl : laidOutB P = true) (hrow : (f.params.toList.all fun t => P.readableRec t && decide (t < P.types.size)) = true) (hv : s.vars = []) (hr : f.resultTypes = #[tb]) (htb : P.underlying tb = some .bool)
    (h1 : (s.fn H (ds ++ [])).results = [.lit (.bool true)]) (h2 : (s.fn H (ds ++ [])).args = ds) (h3 : (s.fn H (ds ++ [])).vars = []) (hb : Below W.heap.size W W') :
    s.post enc P f apart fresh handsOn again W args (.bool true) W' := by
  have hlt : ∀ p ∈ before, p.block < W.heap.size := fun p hp => hW.lt p hp
  have hrow' : ∀ t ∈ f.params.toList, P.readableRec t = true ∧ t < P.types.size := fun t ht => by
    have := List.all_eq_true.1 hrow t ht
    simpa using this
  have hargs : ∀ sp : Nat → Bool, (∀ p ∈ before, sp p.block = true) → DataW.TrodAll enc P W' 0 sp true f.params.toList args.toList ds before := fun sp hsp => trodAll_stays hl hb hrow' hA hlt hsp
  have hvars : ∀ sp : Nat → Bool, DataW.TrodVars enc P W' sp s.vars [] [] := fun sp => by rw [hv]; exact (rfl : ([] : List MemPlace) = [])
  have hres : ∀ (b : Nat) (sp : Nat → Bool) (hd : Bool), DataW.TrodAll enc P W' b sp hd f.resultTypes.toList ((Value.bool true).resultList f.resultTypes.size) [.lit (.bool true)] [] := fun b sp hd => by
    rw [hr]; exact trodAll_cons_mk (shut_bool htb _) trodAll_mk0
  have hold : ∀ p ∈ before, (fun b => decide (b < W.heap.size)) p.block = true := fun p hp => by simpa using hlt p hp
  refine ⟨ds, [], before, [], before, [], hW, by rw [h1]; exact hres _ _ _, by rw [h2]; exact hargs _ hold, by rw [h3]; exact hvars _, World.keptBut_mono (fun p hp => ⟨hp, .inr (.inl hp)⟩) (hb.frame (· ∈ before)), fun _ => ?_⟩
  obtain ⟨_, _, _, _, _, hz, hn⟩ := hW
  refine ⟨ok_one hr rfl (okWide_bool_mk htb _), _, _, ([] ++ before) ++ [], ⟨[] ++ before, [], trodAll_append (show DataW.TrodAll enc P W' 0 (fun _ => true) true f.params.toList args.toList (s.fn H (ds ++ [])).args before by rw [h2]; exact hargs _ (fun _ _ => rfl)) (show DataW.TrodAll enc P W' 0 (fun _ => true) true f.resultTypes.toList ((Value.bool true).resultList f.resultTypes.size) (s.fn H (ds ++ [])).results [] by rw [h1]; exact hres _ _ _), (show DataW.TrodVars enc P W' (fun _ => true) s.vars (s.fn H (ds ++ [])).vars [] by rw [h3]; exact hvars _), rfl, ?_, ?_⟩, ?_⟩
  · intro b off hp
    have hin : MemPlace.cell b off ∈ before := by simpa using hp
    rw [hb.frozen (p := ⟨b, off, none⟩) (hlt _ hin)]
    exact hz b off hin
  · intro ha
    simpa using hn ha
  · intro p hp _
    simpa using hp

theorem FSpec.row {f : FuncId} {args : List Value} {R : Value → List Chunk → Prop} (hs : FSpec P W f args [] R) (hR : ∀ v h', R v h' → v = .bool true) : Calls P f args.toArray W fun e W' => e = .returned (.bool true) ∧ Below W.heap.size W W' :=
  (hs.2 W (Rep.start W)).mono fun _ _ ⟨v, h', e, r, rp⟩ => ⟨by rw [e, hR v h' r], rp.below⟩
end

end Go.Sl

set_option linter.unusedSimpArgs false
set_option linter.unusedVariables false
namespace Go.Sl
open Go Go.ChangeShapes Go.WideShapes

def I64w (n : Int) : Prop := -9223372036854775808 ≤ n ∧ n ≤ 9223372036854775807
def U64w (n : Int) : Prop := 0 ≤ n ∧ n ≤ 18446744073709551615
structure MsgR where
  kind : Int
  f0 : Int
  f1 : Int
  f2 : Int
  f3 : Int
  f4 : Int
  f5 : Int
  deriving DecidableEq
def MsgR.enc (x : MsgR) : List Value := [.int .i64 x.kind, .int .i64 x.f0, .int .i64 x.f1, .int .i64 x.f2, .int .i64 x.f3, .int .i64 x.f4, .int .i64 x.f5]
theorem MsgR.enc_len (d : MsgR) : d.enc.length = 7 := rfl
theorem MsgR.enc_one (d : MsgR) : ∀ v ∈ d.enc, v.oneCell' = true := List.all_eq_true.1 (rfl : d.enc.all Value.oneCell' = true)
def MsgR.ok (x : MsgR) : Prop := I64w x.kind ∧ I64w x.f0 ∧ I64w x.f1 ∧ I64w x.f2 ∧ I64w x.f3 ∧ I64w x.f4 ∧ I64w x.f5
structure OutR where
  to : Int
  msg : MsgR
  deriving DecidableEq
def OutR.enc (x : OutR) : List Value := [.int .i64 x.to] ++ x.msg.enc
theorem OutR.enc_len (d : OutR) : d.enc.length = 8 := rfl
theorem OutR.enc_one (d : OutR) : ∀ v ∈ d.enc, v.oneCell' = true := List.all_eq_true.1 (rfl : d.enc.all Value.oneCell' = true)
def OutR.ok (x : OutR) : Prop := I64w x.to ∧ I64w x.msg.kind ∧ I64w x.msg.f0 ∧ I64w x.msg.f1 ∧ I64w x.msg.f2 ∧ I64w x.msg.f3 ∧ I64w x.msg.f4 ∧ I64w x.msg.f5
structure FrameR where
  seq : Int
  msg : MsgR
  deriving DecidableEq
def FrameR.enc (x : FrameR) : List Value := [.int .i64 x.seq] ++ x.msg.enc
theorem FrameR.enc_len (d : FrameR) : d.enc.length = 8 := rfl
theorem FrameR.enc_one (d : FrameR) : ∀ v ∈ d.enc, v.oneCell' = true := List.all_eq_true.1 (rfl : d.enc.all Value.oneCell' = true)
def FrameR.ok (x : FrameR) : Prop := I64w x.seq ∧ I64w x.msg.kind ∧ I64w x.msg.f0 ∧ I64w x.msg.f1 ∧ I64w x.msg.f2 ∧ I64w x.msg.f3 ∧ I64w x.msg.f4 ∧ I64w x.msg.f5
structure TradeR where
  id : Int
  bond : Int
  buyer : Int
  seller : Int
  price : Int
  qty : Int
  ask : Int
  tick : Int
  deriving DecidableEq
def TradeR.enc (x : TradeR) : List Value := [.int .i64 x.id, .int .i64 x.bond, .int .i64 x.buyer, .int .i64 x.seller, .int .i64 x.price, .int .i64 x.qty, .int .i64 x.ask, .int .i64 x.tick]
theorem TradeR.enc_len (d : TradeR) : d.enc.length = 8 := rfl
theorem TradeR.enc_one (d : TradeR) : ∀ v ∈ d.enc, v.oneCell' = true := List.all_eq_true.1 (rfl : d.enc.all Value.oneCell' = true)
def TradeR.ok (x : TradeR) : Prop := I64w x.id ∧ I64w x.bond ∧ I64w x.buyer ∧ I64w x.seller ∧ I64w x.price ∧ I64w x.qty ∧ I64w x.ask ∧ I64w x.tick
structure BondR where
  tick : Int
  lot : Int
  min : Int
  max : Int
  low : Int
  high : Int
  halted : Bool
  deriving DecidableEq
def BondR.enc (x : BondR) : List Value := [.int .i64 x.tick, .int .i64 x.lot, .int .i64 x.min, .int .i64 x.max, .int .i64 x.low, .int .i64 x.high, .bool x.halted]
theorem BondR.enc_len (d : BondR) : d.enc.length = 7 := rfl
theorem BondR.enc_one (d : BondR) : ∀ v ∈ d.enc, v.oneCell' = true := List.all_eq_true.1 (rfl : d.enc.all Value.oneCell' = true)
def BondR.ok (x : BondR) : Prop := I64w x.tick ∧ I64w x.lot ∧ I64w x.min ∧ I64w x.max ∧ I64w x.low ∧ I64w x.high
structure PartyR where
  role : Int
  asks : Int
  cap : Int
  deriving DecidableEq
def PartyR.enc (x : PartyR) : List Value := [.int .i64 x.role, .int .u64 x.asks, .int .i64 x.cap]
theorem PartyR.enc_len (d : PartyR) : d.enc.length = 3 := rfl
theorem PartyR.enc_one (d : PartyR) : ∀ v ∈ d.enc, v.oneCell' = true := List.all_eq_true.1 (rfl : d.enc.all Value.oneCell' = true)
def PartyR.ok (x : PartyR) : Prop := I64w x.role ∧ U64w x.asks ∧ I64w x.cap
def AskR.ok (x : AskR) : Prop := I64w x.id ∧ I64w x.client ∧ I64w x.bond ∧ I64w x.side ∧ I64w x.qty ∧ U64w x.dealers ∧ I64w x.ends ∧ I64w x.until_ ∧ I64w x.state ∧ I64w x.hit
end Go.Sl

set_option linter.unusedSimpArgs false
set_option linter.unusedVariables false
namespace Go.Sl
open Go Go.RowKit
variable {P : Program} {W : World} {N : Nat} {T : Tab} {env : Env} {h : List Chunk} {Q : Exit → Env → List Chunk → Prop} {kf : KF} {ops : Array Oper} {K : Env → List Chunk → Prop} {rest : List Oper}

theorem aw_treeD {id : Nat} {ol : List Oper} (q al : List FuncId) (p : Plan) (hm : P.follows .mixedOrders = true)
    (hp : (Region.noSelect ol.toArray && (p.len == ol.toArray.size && (p.even && Plan.ok (kdOf (kfD q al) ol.toArray) ol.toArray (Region.before ol.toArray) false p (Array.replicate ol.toArray.size false)))) = true)
    (hep : EP P W N (kfD q al) ol.toArray p env h fun env' h' => Q .normal env' h') : AW P W N (.region id ol.toArray true) env h Q := fun a w ha hw => by
  exact region_tree (W := W) (kp := (kfD q al).keep) (kd := kdOf (kfD q al) ol.toArray) (Q := fun a' h' => ∃ env', Q .normal env' h' ∧ Agree N env' a') (fun a' h' w' hw' ⟨env', hq, ha'⟩ => ⟨env', h', hq, ha', hw'⟩) hm hp hw (hep a ha)
theorem pull2 {h' G F : List Chunk} {x y : Chunk} (h1 : h'.Perm (x :: G)) (h2 : G.Perm (y :: F)) : h'.Perm (x :: y :: F) := h1.trans (h2.cons _)
theorem es_sameB (hT : TabOK P T) {b : Bool} {k : IntKind} {e : Int} {d : Tmp} {t yt : TypeId} {x y : Operand} {ty pos af g} (hg : evalG ops env g = some b) (hb : b = true) (hd : Nat.blt d N = true) (hx : evalE env x = some (.int k e)) (hy : evalE env y = some (.int k e))
    (hK : ES P W N kf ops rest ((d, .bool true) :: env) h K) : ES P W N kf ops (⟨some d, .binOp .eql t x y yt, ty, pos, af, g⟩ :: rest) env h K :=
  es_pure hT hg hb hd (v := .bool (e == e)) (by simp [evalPure, hx, hy, cmpV]) (by rw [beq_self_eq_true]; exact hK)
theorem es_diffB (hT : TabOK P T) {b : Bool} {k : IntKind} {e : Int} {d : Tmp} {t yt : TypeId} {x y : Operand} {ty pos af g} (hg : evalG ops env g = some b) (hb : b = true) (hd : Nat.blt d N = true) (hx : evalE env x = some (.int k e)) (hy : evalE env y = some (.int k e))
    (hK : ES P W N kf ops rest ((d, .bool false) :: env) h K) : ES P W N kf ops (⟨some d, .binOp .neq t x y yt, ty, pos, af, g⟩ :: rest) env h K :=
  es_pure hT hg hb hd (v := .bool (e != e)) (by simp [evalPure, hx, hy, cmpV]) (by rw [bne_self_eq_false]; exact hK)
end Go.Sl

set_option linter.unusedSimpArgs false
set_option linter.unusedVariables false
namespace Go.Sl
open Go Go.RowKit
variable {P : Program} {W : World} {N : Nat} {T : Tab} {env : Env} {h : List Chunk} {Q : Exit → Env → List Chunk → Prop} {kf : KF} {ops : Array Oper} {K : Env → List Chunk → Prop} {rest : List Oper}

def bitI (op : BinOp) (k : IntKind) (x y : Int) : Int := match op with
  | .and => k.wrap (BitVec.ofInt k.bits x &&& BitVec.ofInt k.bits y).toNat
  | .or => k.wrap (BitVec.ofInt k.bits x ||| BitVec.ofInt k.bits y).toNat
  | .xor => k.wrap (BitVec.ofInt k.bits x ^^^ BitVec.ofInt k.bits y).toNat
  | _ => k.wrap (BitVec.ofInt k.bits x &&& ~~~ BitVec.ofInt k.bits y).toNat
def isBits : BinOp → Bool
  | .and | .or | .xor | .andNot => true
  | _ => false
theorem es_bits {b : Bool} {e f : Int} {k : IntKind} {op : BinOp} {d : Tmp} {t yt : TypeId} {x y : Operand} {ty pos af g} (hg : evalG ops env g = some b) (hb : b = true) (hd : Nat.blt d N = true) (hop : isBits op = true) (hx : evalE env x = some (.int k e)) (hy : evalE env y = some (.int k f))
    (hK : ES P W N kf ops rest ((d, .int k (bitI op k e f)) :: env) h K) : ES P W N kf ops (⟨some d, .binOp op t x y yt, ty, pos, af, g⟩ :: rest) env h K := by
  refine es_run hg hb hd (fun a ha w => ?_) hK
  cases op <;> first | (exact absurd hop (by decide)) | (simp [execOp, ha.eval hx, ha.eval hy, eqGuard, binOp, Op.intBits, bitI])
theorem es_shl {b : Bool} {e f : Int} {k yk : IntKind} {d : Tmp} {t yt : TypeId} {x y : Operand} {ty pos af g} (hg : evalG ops env g = some b) (hb : b = true) (hd : Nat.blt d N = true) (hx : evalE env x = some (.int k e)) (hy : evalE env y = some (.int yk f)) (h0 : 0 ≤ f)
    (hK : ES P W N kf ops rest ((d, .int k (k.wrap (e * 2 ^ (min f.toNat k.bits)))) :: env) h K) : ES P W N kf ops (⟨some d, .binOp .shl t x y yt, ty, pos, af, g⟩ :: rest) env h K := by
  refine es_run hg hb hd (fun a ha w => ?_) hK
  have e2 : ¬ (f < 0) := by omega
  simp [execOp, ha.eval hx, ha.eval hy, eqGuard, binOp, Op.shift, e2]
end Go.Sl

set_option linter.unusedSimpArgs false
set_option linter.unusedVariables false
namespace Go.Proofs.YtjcnaeengplcbaaGreat
open Go Go.Sl

def inB (n a b : Int) : Bool := decide (n ≥ a) && decide (n ≤ b)
theorem inB_t {n a b : Int} (h : inB n a b = true) : a ≤ n ∧ n ≤ b := by simp [inB] at h; omega
theorem inB_f {n a b : Int} (h : inB n a b = false) : n < a ∨ b < n := by
  unfold inB at h
  by_cases h1 : n ≥ a
  · simp [h1] at h; omega
  · omega
def isBond (b : BondR) : Bool := (inB b.tick 1 1000000 && inB b.low 1 1000000 && inB b.high b.low 1000000) && (inB b.lot 1 1000000 && inB b.min 1 1000000 && inB b.max b.min 1000000) && decide (b.max - b.max % b.lot ≥ b.min)
def maskTo (l : List PartyR) : Nat → Nat
  | 0 => 0
  | k + 1 => maskTo l k + (match l[k]? with
    | some p => if p.role = 2 then 2 ^ k else 0
    | none => 0)
theorem maskTo_lt (l : List PartyR) : ∀ k, maskTo l k < 2 ^ k
  | 0 => by simp [maskTo]
  | k + 1 => by
    have h1 := maskTo_lt l k
    have h0 : 0 < 2 ^ k := Nat.two_pow_pos k
    unfold maskTo
    rw [Nat.pow_succ]
    generalize 2 ^ k = m at *
    split
    · split <;> omega
    · omega
def isParty (p : PartyR) (all : Int) : Bool :=
  if p.role = 1 then bitI .andNot .u64 p.asks all == 0 && p.cap == 0 else if p.role = 2 then p.asks == 0 && inB p.cap 0 1099511627776 else if p.role = 3 then p.asks == 0 && p.cap == 0 else false
def isR (bs : List BondR) (ps : List PartyR) (look beat : Int) : Bool :=
  (inB bs.length 1 4 && inB ps.length 1 8) && (bs.all isBond && ps.all (fun p => isParty p (maskTo ps ps.length)) && inB look 1 1000 && inB beat 1 1000)
theorem or_pow {a k : Nat} (h : a < 2 ^ k) (hk : k < 64) : bitI .or .u64 (a : Int) (IntKind.u64.wrap (1 * 2 ^ (min ((k : Int)).toNat IntKind.u64.bits))) = ((a + 2 ^ k : Nat) : Int) := by
  have h64 : 2 ^ k < 2 ^ 64 := Nat.pow_lt_pow_right (by decide) hk
  have e1 : IntKind.u64.wrap (1 * 2 ^ (min ((k : Int)).toNat IntKind.u64.bits)) = ((2 ^ k : Nat) : Int) := by
    have : min ((k : Int)).toNat IntKind.u64.bits = k := by show min _ 64 = k; omega
    rw [this, Int.one_mul]
    rw [show ((2 : Int) ^ k) = ((2 ^ k : Nat) : Int) by simp]
    exact IntWalk.u64_in _ ⟨by omega, by omega⟩
  rw [e1]
  show IntKind.u64.wrap ((BitVec.ofInt 64 (a : Int) ||| BitVec.ofInt 64 ((2 ^ k : Nat) : Int)).toNat : Int) = _
  have e2 : (BitVec.ofInt 64 (a : Int) ||| BitVec.ofInt 64 ((2 ^ k : Nat) : Int)).toNat = a + 2 ^ k := by
    rw [BitVec.toNat_or, BitVec.ofInt_natCast, BitVec.ofInt_natCast, BitVec.toNat_ofNat, BitVec.toNat_ofNat, Nat.mod_eq_of_lt (by omega), Nat.mod_eq_of_lt h64, Nat.or_comm]
    have := Nat.two_pow_add_eq_or_of_lt h 1
    rw [Nat.mul_one] at this
    rw [← this]; omega
  rw [e2]
  have : a + 2 ^ k < 2 ^ 64 := by
    have h3 : 2 ^ (k + 1) ≤ 2 ^ 64 := Nat.pow_le_pow_right (by decide) hk
    rw [Nat.pow_succ] at h3; omega
  exact IntWalk.u64_in _ ⟨by omega, by omega⟩
theorem maskTo_step {l : List PartyR} {k : Nat} {p : PartyR} (h : l[k]? = some p) : maskTo l (k + 1) = maskTo l k + if p.role = 2 then 2 ^ k else 0 := by
  show maskTo l k + _ = _
  rw [h]
end Go.Proofs.YtjcnaeengplcbaaGreat

set_option linter.unusedSimpArgs false
set_option linter.unusedVariables false
namespace Go.Sl
open Go Go.RowKit
variable {P : Program} {W : World} {N : Nat} {T : Tab} {env : Env} {h : List Chunk} {Q : Exit → Env → List Chunk → Prop} {kf : KF} {ops : Array Oper} {K : Env → List Chunk → Prop} {rest : List Oper}

theorem aw_loopD {α : Type} {c : Code} (E : α → Env) (H : α → List Chunk) (μ : α → Nat) (S : α → Prop) (x : α) (hs : S x) (he : Sub env (E x)) (hp : DropTo h (H x))
    (hc : ∀ x, S x → AW P W N c (E x) (H x) (LoopQ E H μ S x Q)) : AW P W N (.loop c) env h Q :=
  let ⟨J, p⟩ := hp; aw_loop E H μ S x (J := J) hs he p hc
end Go.Sl

set_option linter.unusedSimpArgs false
set_option linter.unusedVariables false
namespace Go.Sl
open Go Go.RowKit
variable {P : Program} {W : World} {N : Nat} {T : Tab} {env : Env} {h : List Chunk} {Q : Exit → Env → List Chunk → Prop} {kf : KF} {ops : Array Oper} {K : Env → List Chunk → Prop} {rest : List Oper}

theorem permC {h G F : List Chunk} {x : Chunk} (h1 : h.Perm (x :: G)) (h2 : G.Perm F) : h.Perm (x :: F) := h1.trans (h2.cons x)
/-! ### a struct built cell by cell -/
def layS (cs : List Value) (off : Nat) (v : Value) : List Value := match v with
  | .agg _ => lay cs off v.cells.toList
  | .tuple _ => lay cs off v.cells.toList
  | v => cs.set off v
def fillS (place : Nat → Option (Nat × Nat)) (cells : List Value) : List (Nat × Value) → Option (List Value)
  | [] => some cells
  | (i, v) :: rest => match place i with
    | none => none
    | some (off, size) => if v.cells.size = size ∧ off + size ≤ cells.length then fillS place (layS cells off v) rest else none
def buildS (T : Tab) (env : Env) (t : TypeId) (parts : List (Nat × Operand)) : Option (List Value) :=
  match T.lookup t with
  | some ⟨.struct fs, _, _, z⟩ => match placesV T fs.toList, evalPs env parts with
    | some ps, some vs => fillS (fun i => ps[i]?) z.cells.toList vs
    | _, _ => none
  | _ => none
theorem lay_one {cs : List Value} {off : Nat} {v : Value} (h : off + 1 ≤ cs.length) : lay cs off [v] = cs.set off v := by
  unfold lay
  rw [List.set_eq_take_append_cons_drop, if_pos (by omega)]
  simp
theorem layS_eq {cs : List Value} {off : Nat} {v : Value} (h : off + v.cells.size ≤ cs.length) : layS cs off v = lay cs off v.cells.toList := by
  unfold layS
  split
  · rfl
  · rfl
  · rename_i h1 h2
    have e : v.cells = #[v] := by
      cases v <;> first | rfl | exact absurd rfl (h1 _) | exact absurd rfl (h2 _)
    rw [e] at h ⊢
    exact (lay_one h).symm
theorem fillS_eq (place : Nat → Option (Nat × Nat)) : ∀ (parts : List (Nat × Value)) (cells : List Value), fillS place cells parts = fillL place cells parts
  | [], cells => rfl
  | (i, v) :: rest, cells => by
    unfold fillS fillL
    cases hp : place i with
    | none => rfl
    | some q =>
      obtain ⟨off, size⟩ := q
      dsimp only
      split
      · rename_i hc
        rw [layS_eq (by rw [hc.1]; exact hc.2), fillS_eq place rest]
      · rfl
theorem es_buildS (hT : TabOK P T) {b : Bool} {d : Tmp} {ty pos af g} {t : TypeId} {parts : Array (Nat × Operand)} {cs : List Value} (hg : evalG ops env g = some b) (hb : b = true) (hd : Nat.blt d N = true)
    (hv : buildS T env t parts.toList = some cs)
    (hK : ES P W N kf ops rest ((d, .agg cs.toArray) :: env) h K) : ES P W N kf ops (⟨some d, .build t parts, ty, pos, af, g⟩ :: rest) env h K := by
  refine es_build hT hg hb hd ?_ hK
  unfold buildS at hv
  unfold buildV
  split at hv
  · split at hv
    · rename_i h0 _ _ _ _ h1 h2
      simp only [h0, h1, h2]
      rw [← fillS_eq]; exact hv
    · cases hv
  · cases hv
end Go.Sl

set_option linter.unusedSimpArgs false
set_option linter.unusedVariables false
namespace Go.Sl
open Go Go.RowKit
variable {P : Program} {W : World} {T : Tab} {N : Nat} {env : Env} {h h' : List Chunk} {kf : KF} {ops : Array Oper} {K : Env → List Chunk → Prop} {o : Oper} {rest : List Oper}

theorem made_one (z : Value) (n : Nat) : madeCells #[z] n = (List.replicate n z).toArray := by
  apply Array.ext
  · simp [size_madeCells]
  · intro i h1 h2
    simp [madeCells, Nat.mod_one]
theorem es_makeSlice1 (hT : TabOK P T) {b : Bool} {d : Tmp} {ty pos af g} {t e : TypeId} {ti te : TI} {x y : Operand} {n : Nat} {m : Int} {kl kc : IntKind} {z : Value} (hg : evalG ops env g = some b) (hb : b = true) (hd : Nat.blt d N = true) (hk : (kf ⟨some d, .makeSlice t x y, ty, pos, af, g⟩).al = true)
    (ht : T.lookup t = some ti) (htd : ti.desc = .slice e) (hte : T.lookup e = some te) (hs : te.size = 1) (hz : te.zero.cells = #[z]) (hz1 : z.oneCell' = true) (hx : evalE env x = some (.int kl m)) (hy : evalE env y = some (.int kc m)) (hm : m = n) (hn : n ≤ 1000000) (hby : te.bytes ≤ 1000)
    (hK : ∀ g', ES P W N kf ops rest ((d, .slice (some ⟨g', 0, none⟩) n n) :: env) (.own (some ⟨g', 0, none⟩) n n e 1 (List.replicate n z) :: h) K) : ES P W N kf ops (⟨some d, .makeSlice t x y, ty, pos, af, g⟩ :: rest) env h K := fun a ha => by
  subst hb hm
  refine opI_of_alloc (it := mkItem kf ops ⟨some d, .makeSlice t x y, ty, pos, af, g⟩) (evalG_ok ha hg) (al_of hk) (fun w hw => ?_)
  have g1 := (hT _ _ ht).1
  rw [htd] at g1
  obtain ⟨_, i, hi, h1, h2, h3⟩ := hT _ _ hte
  have hb2 : (i.bytes : Int) * (n : Int) ≤ 281474976710656 := by
    have : i.bytes * n ≤ 1000 * 1000000 := Nat.mul_le_mul (by omega) hn
    have : ((i.bytes * n : Nat) : Int) ≤ 281474976710656 := by omega
    rwa [Int.natCast_mul] at this
  have hr := run_makeSlice (P := P) w t e i te.zero g1 hi h3 kl kc (n : Int) (n : Int) (by omega) (Int.le_refl _) (by rw [h1, hs]; simp; omega) hb2 (by omega)
  rw [hz, h1, hs, Nat.mul_one, Int.toNat_natCast, made_one] at hr
  have hrun : (execOp a.eval ⟨some d, .makeSlice t x y, ty, pos, af, g⟩).run P w = .ok (.value (.slice (some ⟨w.heap.size, 0, none⟩) n n)) (w.alloc (.cells (List.replicate n z).toArray e)) := by
    simp only [execOp, ha.eval hx, ha.eval hy, Sem.run_bind, hr, Result.andThen_ok, Sem.run_pure]
  unfold Oper.wp
  show Oper.upon P _ a _ _ ((execOp a.eval ⟨some d, .makeSlice t x y, ty, pos, af, g⟩).run P w)
  rw [hrun]
  refine ⟨[.own (some ⟨w.heap.size, 0, none⟩) n n e 1 (List.replicate n z)], ?_, hK w.heap.size _ (ha.put (d := some d) hd)⟩
  exact hw.alloc_own e n 1 (List.replicate n z) (by simp) (by simp [maxLen]; omega) (fun v hv => by rw [(List.mem_replicate.1 hv).2]; exact hz1)
/-! ### rows of rows in memory -/
theorem selApp {c : Chunk} {X F G : List Chunk} (hp : F.Perm (c :: G)) : (X ++ F).Perm (c :: (X ++ G)) := (hp.append_left X).trans List.perm_middle
theorem dt_both {X F G : List Chunk} (hd : DropTo F G) : DropTo (X ++ F) (X ++ G) := by
  obtain ⟨J, p⟩ := hd
  refine ⟨J, (p.append_left X).trans ?_⟩
  rw [← List.append_assoc, ← List.append_assoc]
  exact (List.perm_append_comm).append_right G
end Go.Sl

namespace Go.Proofs.YtjcnaeengplcbaaGreat
open Go Go.Sl

def ti2 : TI := ⟨.int .i64, 1, 8, .int .i64 0⟩
def ti3 : TI := ⟨.int .i64, 1, 8, .int .i64 0⟩
def ti4 : TI := ⟨.bool, 1, 1, .bool false⟩
def ti5 : TI := ⟨.int .u8, 1, 1, .int .u8 0⟩
def ti6 : TI := ⟨.int .u8, 1, 1, .int .u8 0⟩
def ti7 : TI := ⟨.struct #[⟨"x", 2, 0, false, "", "runtime", 0⟩, ⟨"y", 3, 1, false, "", "runtime", 8⟩, ⟨"signed", 4, 2, false, "", "runtime", 16⟩, ⟨"code", 6, 3, false, "", "runtime", 17⟩], 4, 24, .agg #[.int .i64 0, .int .i64 0, .bool false, .int .u8 0]⟩
def ti8 : TI := ⟨.struct #[⟨"x", 2, 0, false, "", "runtime", 0⟩, ⟨"y", 3, 1, false, "", "runtime", 8⟩, ⟨"signed", 4, 2, false, "", "runtime", 16⟩, ⟨"code", 6, 3, false, "", "runtime", 17⟩], 4, 24, .agg #[.int .i64 0, .int .i64 0, .bool false, .int .u8 0]⟩
def ti9 : TI := ⟨.string, 1, 16, .string ⟨#[]⟩⟩
def ti10 : TI := ⟨.string, 1, 16, .string ⟨#[]⟩⟩
def ti11 : TI := ⟨.string, 1, 16, .string ⟨#[]⟩⟩
def ti12 : TI := ⟨.int .u64, 1, 8, .int .u64 0⟩
def ti13 : TI := ⟨.struct #[⟨"msg", 9, 0, false, "", "runtime", 0⟩, ⟨"addr", 12, 1, false, "", "runtime", 16⟩], 2, 24, .agg #[.string ⟨#[]⟩, .int .u64 0]⟩
def ti14 : TI := ⟨.struct #[⟨"msg", 9, 0, false, "", "runtime", 0⟩, ⟨"addr", 12, 1, false, "", "runtime", 16⟩], 2, 24, .agg #[.string ⟨#[]⟩, .int .u64 0]⟩
def ti15 : TI := ⟨.pointer 394, 1, 8, .pointer none⟩
def ti16 : TI := ⟨.pointer 397, 1, 8, .pointer none⟩
def ti17 : TI := ⟨.pointer 405, 1, 8, .pointer none⟩
def ti18 : TI := ⟨.struct #[⟨"typ", 17, 0, false, "", "internal/runtime/maps", 0⟩], 1, 8, .agg #[.pointer none]⟩
def ti19 : TI := ⟨.struct #[⟨"typ", 17, 0, false, "", "internal/runtime/maps", 0⟩], 1, 8, .agg #[.pointer none]⟩
def ti21 : TI := ⟨.int .i32, 1, 4, .int .i32 0⟩
def ti22 : TI := ⟨.slice 30, 1, 24, .slice none 0 0⟩
def ti23 : TI := ⟨.pointer 132, 1, 8, .pointer none⟩
def ti25 : TI := ⟨.pointer 134, 1, 8, .pointer none⟩
def ti27 : TI := ⟨.int .i64, 1, 8, .int .i64 0⟩
def ti29 : TI := ⟨.struct #[⟨"ID", 2, 0, false, "", "", 0⟩, ⟨"Bond", 3, 1, false, "", "", 8⟩, ⟨"Buyer", 3, 2, false, "", "", 16⟩, ⟨"Seller", 3, 3, false, "", "", 24⟩, ⟨"Price", 2, 4, false, "", "", 32⟩, ⟨"Qty", 2, 5, false, "", "", 40⟩, ⟨"Ask", 2, 6, false, "", "", 48⟩, ⟨"Tick", 2, 7, false, "", "", 56⟩], 8, 64, .agg #[.int .i64 0, .int .i64 0, .int .i64 0, .int .i64 0, .int .i64 0, .int .i64 0, .int .i64 0, .int .i64 0]⟩
def ti30 : TI := ⟨.struct #[⟨"ID", 2, 0, false, "", "", 0⟩, ⟨"Bond", 3, 1, false, "", "", 8⟩, ⟨"Buyer", 3, 2, false, "", "", 16⟩, ⟨"Seller", 3, 3, false, "", "", 24⟩, ⟨"Price", 2, 4, false, "", "", 32⟩, ⟨"Qty", 2, 5, false, "", "", 40⟩, ⟨"Ask", 2, 6, false, "", "", 48⟩, ⟨"Tick", 2, 7, false, "", "", 56⟩], 8, 64, .agg #[.int .i64 0, .int .i64 0, .int .i64 0, .int .i64 0, .int .i64 0, .int .i64 0, .int .i64 0, .int .i64 0]⟩
def ti36 : TI := ⟨.slice 82, 1, 24, .slice none 0 0⟩
def ti37 : TI := ⟨.pointer 193, 1, 8, .pointer none⟩
def ti38 : TI := ⟨.pointer 97, 1, 8, .pointer none⟩
def ti45 : TI := ⟨.slice 48, 1, 24, .slice none 0 0⟩
def ti46 : TI := ⟨.slice 53, 1, 24, .slice none 0 0⟩
def ti48 : TI := ⟨.slice 51, 1, 24, .slice none 0 0⟩
def ti49 : TI := ⟨.array 6 2, 6, 48, .agg #[.int .i64 0, .int .i64 0, .int .i64 0, .int .i64 0, .int .i64 0, .int .i64 0]⟩
def ti50 : TI := ⟨.struct #[⟨"Kind", 3, 0, false, "", "", 0⟩, ⟨"F", 49, 1, false, "", "", 8⟩], 7, 56, .agg #[.int .i64 0, .int .i64 0, .int .i64 0, .int .i64 0, .int .i64 0, .int .i64 0, .int .i64 0]⟩
def ti51 : TI := ⟨.struct #[⟨"Kind", 3, 0, false, "", "", 0⟩, ⟨"F", 49, 1, false, "", "", 8⟩], 7, 56, .agg #[.int .i64 0, .int .i64 0, .int .i64 0, .int .i64 0, .int .i64 0, .int .i64 0, .int .i64 0]⟩
def ti52 : TI := ⟨.struct #[⟨"To", 3, 0, false, "", "", 0⟩, ⟨"Msg", 51, 1, false, "", "", 8⟩], 8, 64, .agg #[.int .i64 0, .int .i64 0, .int .i64 0, .int .i64 0, .int .i64 0, .int .i64 0, .int .i64 0, .int .i64 0]⟩
def ti53 : TI := ⟨.struct #[⟨"To", 3, 0, false, "", "", 0⟩, ⟨"Msg", 51, 1, false, "", "", 8⟩], 8, 64, .agg #[.int .i64 0, .int .i64 0, .int .i64 0, .int .i64 0, .int .i64 0, .int .i64 0, .int .i64 0, .int .i64 0]⟩
def ti55 : TI := ⟨.slice 104, 1, 24, .slice none 0 0⟩
def ti58 : TI := ⟨.slice 162, 1, 24, .slice none 0 0⟩
def ti59 : TI := ⟨.slice 165, 1, 24, .slice none 0 0⟩
def ti60 : TI := ⟨.struct #[⟨"Bonds", 58, 0, false, "", "", 0⟩, ⟨"Parties", 59, 1, false, "", "", 24⟩, ⟨"Look", 2, 2, false, "", "", 48⟩, ⟨"Beat", 2, 3, false, "", "", 56⟩], 4, 64, .agg #[.slice none 0 0, .slice none 0 0, .int .i64 0, .int .i64 0]⟩
def ti61 : TI := ⟨.struct #[⟨"Bonds", 58, 0, false, "", "", 0⟩, ⟨"Parties", 59, 1, false, "", "", 24⟩, ⟨"Look", 2, 2, false, "", "", 48⟩, ⟨"Beat", 2, 3, false, "", "", 56⟩], 4, 64, .agg #[.slice none 0 0, .slice none 0 0, .int .i64 0, .int .i64 0]⟩
def ti62 : TI := ⟨.pointer 176, 1, 8, .pointer none⟩
def ti64 : TI := ⟨.pointer 95, 1, 8, .pointer none⟩
def ti70 : TI := ⟨.slice 3, 1, 24, .slice none 0 0⟩
def ti72 : TI := ⟨.slice 27, 1, 24, .slice none 0 0⟩
def ti81 : TI := ⟨.struct #[⟨"ID", 2, 0, false, "", "", 0⟩, ⟨"Seq", 2, 1, false, "", "", 8⟩, ⟨"Owner", 3, 2, false, "", "", 16⟩, ⟨"Side", 3, 3, false, "", "", 24⟩, ⟨"Price", 2, 4, false, "", "", 32⟩, ⟨"Left", 2, 5, false, "", "", 40⟩], 6, 48, .agg #[.int .i64 0, .int .i64 0, .int .i64 0, .int .i64 0, .int .i64 0, .int .i64 0]⟩
def ti82 : TI := ⟨.struct #[⟨"ID", 2, 0, false, "", "", 0⟩, ⟨"Seq", 2, 1, false, "", "", 8⟩, ⟨"Owner", 3, 2, false, "", "", 16⟩, ⟨"Side", 3, 3, false, "", "", 24⟩, ⟨"Price", 2, 4, false, "", "", 32⟩, ⟨"Left", 2, 5, false, "", "", 40⟩], 6, 48, .agg #[.int .i64 0, .int .i64 0, .int .i64 0, .int .i64 0, .int .i64 0, .int .i64 0]⟩
def ti87 : TI := ⟨.slice 102, 1, 24, .slice none 0 0⟩
def ti88 : TI := ⟨.slice 38, 1, 24, .slice none 0 0⟩
def ti89 : TI := ⟨.pointer 213, 1, 8, .pointer none⟩
def ti90 : TI := ⟨.pointer 180, 1, 8, .pointer none⟩
def ti91 : TI := ⟨.pointer 117, 1, 8, .pointer none⟩
def ti92 : TI := ⟨.pointer 183, 1, 8, .pointer none⟩
def ti93 : TI := ⟨.pointer 122, 1, 8, .pointer none⟩
def ti94 : TI := ⟨.struct #[⟨"Bonds", 58, 0, false, "", "", 0⟩, ⟨"look", 2, 1, false, "", "consols/consolsref23", 24⟩, ⟨"T", 2, 2, false, "", "", 32⟩, ⟨"Books", 88, 3, false, "", "", 40⟩, ⟨"Firm", 89, 4, false, "", "", 64⟩, ⟨"Q", 90, 5, false, "", "", 72⟩, ⟨"A", 91, 6, false, "", "", 80⟩, ⟨"D", 92, 7, false, "", "", 88⟩, ⟨"P", 25, 8, false, "", "", 96⟩, ⟨"B", 93, 9, false, "", "", 104⟩, ⟨"orders", 2, 10, false, "", "consols/consolsref23", 112⟩, ⟨"seqs", 2, 11, false, "", "consols/consolsref23", 120⟩, ⟨"quotes", 2, 12, false, "", "consols/consolsref23", 128⟩, ⟨"asks", 2, 13, false, "", "consols/consolsref23", 136⟩, ⟨"outs", 46, 14, false, "", "consols/consolsref23", 144⟩], 15, 168, .agg #[.slice none 0 0, .int .i64 0, .int .i64 0, .slice none 0 0, .pointer none, .pointer none, .pointer none, .pointer none, .pointer none, .pointer none, .int .i64 0, .int .i64 0, .int .i64 0, .int .i64 0, .slice none 0 0]⟩
def ti95 : TI := ⟨.struct #[⟨"Bonds", 58, 0, false, "", "", 0⟩, ⟨"look", 2, 1, false, "", "consols/consolsref23", 24⟩, ⟨"T", 2, 2, false, "", "", 32⟩, ⟨"Books", 88, 3, false, "", "", 40⟩, ⟨"Firm", 89, 4, false, "", "", 64⟩, ⟨"Q", 90, 5, false, "", "", 72⟩, ⟨"A", 91, 6, false, "", "", 80⟩, ⟨"D", 92, 7, false, "", "", 88⟩, ⟨"P", 25, 8, false, "", "", 96⟩, ⟨"B", 93, 9, false, "", "", 104⟩, ⟨"orders", 2, 10, false, "", "consols/consolsref23", 112⟩, ⟨"seqs", 2, 11, false, "", "consols/consolsref23", 120⟩, ⟨"quotes", 2, 12, false, "", "consols/consolsref23", 128⟩, ⟨"asks", 2, 13, false, "", "consols/consolsref23", 136⟩, ⟨"outs", 46, 14, false, "", "consols/consolsref23", 144⟩], 15, 168, .agg #[.slice none 0 0, .int .i64 0, .int .i64 0, .slice none 0 0, .pointer none, .pointer none, .pointer none, .pointer none, .pointer none, .pointer none, .int .i64 0, .int .i64 0, .int .i64 0, .int .i64 0, .slice none 0 0]⟩
def ti96 : TI := ⟨.struct #[⟨"L", 36, 0, false, "", "", 0⟩], 1, 24, .agg #[.slice none 0 0]⟩
def ti97 : TI := ⟨.struct #[⟨"L", 36, 0, false, "", "", 0⟩], 1, 24, .agg #[.slice none 0 0]⟩
def ti98 : TI := ⟨.slice 106, 1, 24, .slice none 0 0⟩
def ti101 : TI := ⟨.struct #[⟨"Kind", 3, 0, false, "", "", 0⟩, ⟨"Who", 3, 1, false, "", "", 8⟩, ⟨"N", 2, 2, false, "", "", 16⟩, ⟨"Msg", 51, 3, false, "", "", 24⟩], 10, 80, .agg #[.int .i64 0, .int .i64 0, .int .i64 0, .int .i64 0, .int .i64 0, .int .i64 0, .int .i64 0, .int .i64 0, .int .i64 0, .int .i64 0]⟩
def ti102 : TI := ⟨.struct #[⟨"Kind", 3, 0, false, "", "", 0⟩, ⟨"Who", 3, 1, false, "", "", 8⟩, ⟨"N", 2, 2, false, "", "", 16⟩, ⟨"Msg", 51, 3, false, "", "", 24⟩], 10, 80, .agg #[.int .i64 0, .int .i64 0, .int .i64 0, .int .i64 0, .int .i64 0, .int .i64 0, .int .i64 0, .int .i64 0, .int .i64 0, .int .i64 0]⟩
def ti104 : TI := ⟨.int .u64, 1, 8, .int .u64 0⟩
def ti105 : TI := ⟨.struct #[⟨"ID", 2, 0, false, "", "", 0⟩, ⟨"Client", 3, 1, false, "", "", 8⟩, ⟨"Bond", 3, 2, false, "", "", 16⟩, ⟨"Side", 3, 3, false, "", "", 24⟩, ⟨"Qty", 2, 4, false, "", "", 32⟩, ⟨"Dealers", 104, 5, false, "", "", 40⟩, ⟨"Ends", 2, 6, false, "", "", 48⟩, ⟨"Until", 2, 7, false, "", "", 56⟩, ⟨"State", 3, 8, false, "", "", 64⟩, ⟨"Hit", 2, 9, false, "", "", 72⟩], 10, 80, .agg #[.int .i64 0, .int .i64 0, .int .i64 0, .int .i64 0, .int .i64 0, .int .u64 0, .int .i64 0, .int .i64 0, .int .i64 0, .int .i64 0]⟩
def ti106 : TI := ⟨.struct #[⟨"ID", 2, 0, false, "", "", 0⟩, ⟨"Client", 3, 1, false, "", "", 8⟩, ⟨"Bond", 3, 2, false, "", "", 16⟩, ⟨"Side", 3, 3, false, "", "", 24⟩, ⟨"Qty", 2, 4, false, "", "", 32⟩, ⟨"Dealers", 104, 5, false, "", "", 40⟩, ⟨"Ends", 2, 6, false, "", "", 48⟩, ⟨"Until", 2, 7, false, "", "", 56⟩, ⟨"State", 3, 8, false, "", "", 64⟩, ⟨"Hit", 2, 9, false, "", "", 72⟩], 10, 80, .agg #[.int .i64 0, .int .i64 0, .int .i64 0, .int .i64 0, .int .i64 0, .int .u64 0, .int .i64 0, .int .i64 0, .int .i64 0, .int .i64 0]⟩
def ti109 : TI := ⟨.int .u64, 1, 8, .int .u64 0⟩
def ti116 : TI := ⟨.struct #[⟨"L", 98, 0, false, "", "", 0⟩], 1, 24, .agg #[.slice none 0 0]⟩
def ti117 : TI := ⟨.struct #[⟨"L", 98, 0, false, "", "", 0⟩], 1, 24, .agg #[.slice none 0 0]⟩
def ti121 : TI := ⟨.struct #[⟨"L", 22, 0, false, "", "", 0⟩], 1, 24, .agg #[.slice none 0 0]⟩
def ti122 : TI := ⟨.struct #[⟨"L", 22, 0, false, "", "", 0⟩], 1, 24, .agg #[.slice none 0 0]⟩
def ti123 : TI := ⟨.slice 125, 1, 24, .slice none 0 0⟩
def ti125 : TI := ⟨.struct #[⟨"Kind", 3, 0, false, "", "", 0⟩, ⟨"Who", 3, 1, false, "", "", 8⟩, ⟨"N", 2, 2, false, "", "", 16⟩, ⟨"Msg", 51, 3, false, "", "", 24⟩], 10, 80, .agg #[.int .i64 0, .int .i64 0, .int .i64 0, .int .i64 0, .int .i64 0, .int .i64 0, .int .i64 0, .int .i64 0, .int .i64 0, .int .i64 0]⟩
def ti129 : TI := ⟨.slice 2, 1, 24, .slice none 0 0⟩
def ti130 : TI := ⟨.slice 129, 1, 24, .slice none 0 0⟩
def ti131 : TI := ⟨.struct #[⟨"bonds", 130, 0, false, "", "consols/pos", 0⟩, ⟨"cash", 129, 1, false, "", "consols/pos", 24⟩], 2, 48, .agg #[.slice none 0 0, .slice none 0 0]⟩
def ti132 : TI := ⟨.struct #[⟨"bonds", 130, 0, false, "", "consols/pos", 0⟩, ⟨"cash", 129, 1, false, "", "consols/pos", 24⟩], 2, 48, .agg #[.slice none 0 0, .slice none 0 0]⟩
def ti133 : TI := ⟨.struct #[⟨"B", 130, 0, false, "", "", 0⟩, ⟨"C", 129, 1, false, "", "", 24⟩], 2, 48, .agg #[.slice none 0 0, .slice none 0 0]⟩
def ti134 : TI := ⟨.struct #[⟨"B", 130, 0, false, "", "", 0⟩, ⟨"C", 129, 1, false, "", "", 24⟩], 2, 48, .agg #[.slice none 0 0, .slice none 0 0]⟩
def ti136 : TI := ⟨.struct #[⟨"Hi", 104, 0, false, "", "", 0⟩, ⟨"Lo", 104, 1, false, "", "", 8⟩], 2, 16, .agg #[.int .u64 0, .int .u64 0]⟩
def ti137 : TI := ⟨.struct #[⟨"Hi", 104, 0, false, "", "", 0⟩, ⟨"Lo", 104, 1, false, "", "", 8⟩], 2, 16, .agg #[.int .u64 0, .int .u64 0]⟩
def ti148 : TI := ⟨.slice 151, 1, 24, .slice none 0 0⟩
def ti150 : TI := ⟨.struct #[⟨"Price", 2, 0, false, "", "", 0⟩, ⟨"Qty", 2, 1, false, "", "", 8⟩], 2, 16, .agg #[.int .i64 0, .int .i64 0]⟩
def ti151 : TI := ⟨.struct #[⟨"Price", 2, 0, false, "", "", 0⟩, ⟨"Qty", 2, 1, false, "", "", 8⟩], 2, 16, .agg #[.int .i64 0, .int .i64 0]⟩
def ti156 : TI := ⟨.slice 5, 1, 24, .slice none 0 0⟩
def ti158 : TI := ⟨.pointer 228, 1, 8, .pointer none⟩
def ti161 : TI := ⟨.struct #[⟨"Tick", 2, 0, false, "", "", 0⟩, ⟨"Lot", 2, 1, false, "", "", 8⟩, ⟨"Min", 2, 2, false, "", "", 16⟩, ⟨"Max", 2, 3, false, "", "", 24⟩, ⟨"Low", 2, 4, false, "", "", 32⟩, ⟨"High", 2, 5, false, "", "", 40⟩, ⟨"Halted", 4, 6, false, "", "", 48⟩], 7, 56, .agg #[.int .i64 0, .int .i64 0, .int .i64 0, .int .i64 0, .int .i64 0, .int .i64 0, .bool false]⟩
def ti162 : TI := ⟨.struct #[⟨"Tick", 2, 0, false, "", "", 0⟩, ⟨"Lot", 2, 1, false, "", "", 8⟩, ⟨"Min", 2, 2, false, "", "", 16⟩, ⟨"Max", 2, 3, false, "", "", 24⟩, ⟨"Low", 2, 4, false, "", "", 32⟩, ⟨"High", 2, 5, false, "", "", 40⟩, ⟨"Halted", 4, 6, false, "", "", 48⟩], 7, 56, .agg #[.int .i64 0, .int .i64 0, .int .i64 0, .int .i64 0, .int .i64 0, .int .i64 0, .bool false]⟩
def ti164 : TI := ⟨.struct #[⟨"Role", 3, 0, false, "", "", 0⟩, ⟨"Asks", 104, 1, false, "", "", 8⟩, ⟨"Cap", 2, 2, false, "", "", 16⟩], 3, 24, .agg #[.int .i64 0, .int .u64 0, .int .i64 0]⟩
def ti165 : TI := ⟨.struct #[⟨"Role", 3, 0, false, "", "", 0⟩, ⟨"Asks", 104, 1, false, "", "", 8⟩, ⟨"Cap", 2, 2, false, "", "", 16⟩], 3, 24, .agg #[.int .i64 0, .int .u64 0, .int .i64 0]⟩
def ti166 : TI := ⟨.pointer 230, 1, 8, .pointer none⟩
def ti168 : TI := ⟨.pointer 232, 1, 8, .pointer none⟩
def ti170 : TI := ⟨.pointer 234, 1, 8, .pointer none⟩
def ti172 : TI := ⟨.pointer 236, 1, 8, .pointer none⟩
def ti174 : TI := ⟨.slice 37, 1, 24, .slice none 0 0⟩
def ti175 : TI := ⟨.struct #[⟨"rules", 61, 0, false, "", "consols/desk", 0⟩, ⟨"now", 2, 4, false, "", "consols/desk", 64⟩, ⟨"books", 174, 5, false, "", "consols/desk", 72⟩, ⟨"firm", 158, 6, false, "", "consols/desk", 96⟩, ⟨"quotes", 166, 7, false, "", "consols/desk", 104⟩, ⟨"asks", 168, 8, false, "", "consols/desk", 112⟩, ⟨"due", 170, 9, false, "", "consols/desk", 120⟩, ⟨"pos", 23, 10, false, "", "consols/desk", 128⟩, ⟨"blot", 172, 11, false, "", "consols/desk", 136⟩, ⟨"order", 2, 12, false, "", "consols/desk", 144⟩, ⟨"seq", 2, 13, false, "", "consols/desk", 152⟩, ⟨"quote", 2, 14, false, "", "consols/desk", 160⟩, ⟨"ask", 2, 15, false, "", "consols/desk", 168⟩], 16, 176, .agg #[.slice none 0 0, .slice none 0 0, .int .i64 0, .int .i64 0, .int .i64 0, .slice none 0 0, .pointer none, .pointer none, .pointer none, .pointer none, .pointer none, .pointer none, .int .i64 0, .int .i64 0, .int .i64 0, .int .i64 0]⟩
def ti176 : TI := ⟨.struct #[⟨"rules", 61, 0, false, "", "consols/desk", 0⟩, ⟨"now", 2, 4, false, "", "consols/desk", 64⟩, ⟨"books", 174, 5, false, "", "consols/desk", 72⟩, ⟨"firm", 158, 6, false, "", "consols/desk", 96⟩, ⟨"quotes", 166, 7, false, "", "consols/desk", 104⟩, ⟨"asks", 168, 8, false, "", "consols/desk", 112⟩, ⟨"due", 170, 9, false, "", "consols/desk", 120⟩, ⟨"pos", 23, 10, false, "", "consols/desk", 128⟩, ⟨"blot", 172, 11, false, "", "consols/desk", 136⟩, ⟨"order", 2, 12, false, "", "consols/desk", 144⟩, ⟨"seq", 2, 13, false, "", "consols/desk", 152⟩, ⟨"quote", 2, 14, false, "", "consols/desk", 160⟩, ⟨"ask", 2, 15, false, "", "consols/desk", 168⟩], 16, 176, .agg #[.slice none 0 0, .slice none 0 0, .int .i64 0, .int .i64 0, .int .i64 0, .slice none 0 0, .pointer none, .pointer none, .pointer none, .pointer none, .pointer none, .pointer none, .int .i64 0, .int .i64 0, .int .i64 0, .int .i64 0]⟩
def ti178 : TI := ⟨.slice 200, 1, 24, .slice none 0 0⟩
def ti179 : TI := ⟨.struct #[⟨"L", 178, 0, false, "", "", 0⟩], 1, 24, .agg #[.slice none 0 0]⟩
def ti180 : TI := ⟨.struct #[⟨"L", 178, 0, false, "", "", 0⟩], 1, 24, .agg #[.slice none 0 0]⟩
def ti181 : TI := ⟨.slice 205, 1, 24, .slice none 0 0⟩
def ti182 : TI := ⟨.struct #[⟨"L", 181, 0, false, "", "", 0⟩], 1, 24, .agg #[.slice none 0 0]⟩
def ti183 : TI := ⟨.struct #[⟨"L", 181, 0, false, "", "", 0⟩], 1, 24, .agg #[.slice none 0 0]⟩
def ti184 : TI := ⟨.pointer 186, 1, 8, .pointer none⟩
def ti185 : TI := ⟨.struct #[⟨"who", 3, 0, false, "", "consols/desk", 0⟩, ⟨"id", 2, 1, false, "", "consols/desk", 8⟩, ⟨"l", 46, 2, false, "", "consols/desk", 16⟩], 3, 40, .agg #[.int .i64 0, .int .i64 0, .slice none 0 0]⟩
def ti186 : TI := ⟨.struct #[⟨"who", 3, 0, false, "", "consols/desk", 0⟩, ⟨"id", 2, 1, false, "", "consols/desk", 8⟩, ⟨"l", 46, 2, false, "", "consols/desk", 16⟩], 3, 40, .agg #[.int .i64 0, .int .i64 0, .slice none 0 0]⟩
def ti192 : TI := ⟨.struct #[⟨"l", 36, 0, false, "", "consols/book", 0⟩], 1, 24, .agg #[.slice none 0 0]⟩
def ti193 : TI := ⟨.struct #[⟨"l", 36, 0, false, "", "consols/book", 0⟩], 1, 24, .agg #[.slice none 0 0]⟩
def ti199 : TI := ⟨.struct #[⟨"ID", 2, 0, false, "", "", 0⟩, ⟨"Ask", 2, 1, false, "", "", 8⟩, ⟨"Dealer", 3, 2, false, "", "", 16⟩, ⟨"Price", 2, 3, false, "", "", 24⟩, ⟨"Expires", 2, 4, false, "", "", 32⟩, ⟨"Live", 4, 5, false, "", "", 40⟩], 6, 48, .agg #[.int .i64 0, .int .i64 0, .int .i64 0, .int .i64 0, .int .i64 0, .bool false]⟩
def ti200 : TI := ⟨.struct #[⟨"ID", 2, 0, false, "", "", 0⟩, ⟨"Ask", 2, 1, false, "", "", 8⟩, ⟨"Dealer", 3, 2, false, "", "", 16⟩, ⟨"Price", 2, 3, false, "", "", 24⟩, ⟨"Expires", 2, 4, false, "", "", 32⟩, ⟨"Live", 4, 5, false, "", "", 40⟩], 6, 48, .agg #[.int .i64 0, .int .i64 0, .int .i64 0, .int .i64 0, .int .i64 0, .bool false]⟩
def ti204 : TI := ⟨.struct #[⟨"Tick", 2, 0, false, "", "", 0⟩, ⟨"Kind", 3, 1, false, "", "", 8⟩, ⟨"ID", 2, 2, false, "", "", 16⟩], 3, 24, .agg #[.int .i64 0, .int .i64 0, .int .i64 0]⟩
def ti205 : TI := ⟨.struct #[⟨"Tick", 2, 0, false, "", "", 0⟩, ⟨"Kind", 3, 1, false, "", "", 8⟩, ⟨"ID", 2, 2, false, "", "", 16⟩], 3, 24, .agg #[.int .i64 0, .int .i64 0, .int .i64 0]⟩
def ti212 : TI := ⟨.struct #[⟨"P", 59, 0, false, "", "", 0⟩, ⟨"U", 129, 1, false, "", "", 24⟩], 2, 48, .agg #[.slice none 0 0, .slice none 0 0]⟩
def ti213 : TI := ⟨.struct #[⟨"P", 59, 0, false, "", "", 0⟩, ⟨"U", 129, 1, false, "", "", 24⟩], 2, 48, .agg #[.slice none 0 0, .slice none 0 0]⟩
def ti215 : TI := ⟨.map 2 4, 1, 8, .map none⟩
def ti227 : TI := ⟨.struct #[⟨"l", 59, 0, false, "", "consols/firm", 0⟩, ⟨"used", 129, 1, false, "", "consols/firm", 24⟩], 2, 48, .agg #[.slice none 0 0, .slice none 0 0]⟩
def ti228 : TI := ⟨.struct #[⟨"l", 59, 0, false, "", "consols/firm", 0⟩, ⟨"used", 129, 1, false, "", "consols/firm", 24⟩], 2, 48, .agg #[.slice none 0 0, .slice none 0 0]⟩
def ti229 : TI := ⟨.struct #[⟨"l", 178, 0, false, "", "consols/quote", 0⟩], 1, 24, .agg #[.slice none 0 0]⟩
def ti230 : TI := ⟨.struct #[⟨"l", 178, 0, false, "", "consols/quote", 0⟩], 1, 24, .agg #[.slice none 0 0]⟩
def ti231 : TI := ⟨.struct #[⟨"l", 98, 0, false, "", "consols/ask", 0⟩], 1, 24, .agg #[.slice none 0 0]⟩
def ti232 : TI := ⟨.struct #[⟨"l", 98, 0, false, "", "consols/ask", 0⟩], 1, 24, .agg #[.slice none 0 0]⟩
def ti233 : TI := ⟨.struct #[⟨"l", 181, 0, false, "", "consols/due", 0⟩], 1, 24, .agg #[.slice none 0 0]⟩
def ti234 : TI := ⟨.struct #[⟨"l", 181, 0, false, "", "consols/due", 0⟩], 1, 24, .agg #[.slice none 0 0]⟩
def ti235 : TI := ⟨.struct #[⟨"l", 22, 0, false, "", "consols/blot", 0⟩, ⟨"head", 104, 1, false, "", "consols/blot", 24⟩], 2, 32, .agg #[.slice none 0 0, .int .u64 0]⟩
def ti236 : TI := ⟨.struct #[⟨"l", 22, 0, false, "", "consols/blot", 0⟩, ⟨"head", 104, 1, false, "", "consols/blot", 24⟩], 2, 32, .agg #[.slice none 0 0, .int .u64 0]⟩
def ti294 : TI := ⟨.slice 354, 1, 24, .slice none 0 0⟩
def ti295 : TI := ⟨.slice 352, 1, 24, .slice none 0 0⟩
def ti311 : TI := ⟨.int .i64, 1, 8, .int .i64 0⟩
def ti318 : TI := ⟨.int .u32, 1, 4, .int .u32 0⟩
def ti325 : TI := ⟨.pointer 106, 1, 8, .pointer none⟩
def ti338 : TI := ⟨.pointer 200, 1, 8, .pointer none⟩
def ti351 : TI := ⟨.struct #[⟨"ID", 2, 0, false, "", "", 0⟩, ⟨"Owner", 3, 1, false, "", "", 8⟩, ⟨"Left", 2, 2, false, "", "", 16⟩], 3, 24, .agg #[.int .i64 0, .int .i64 0, .int .i64 0]⟩
def ti352 : TI := ⟨.struct #[⟨"ID", 2, 0, false, "", "", 0⟩, ⟨"Owner", 3, 1, false, "", "", 8⟩, ⟨"Left", 2, 2, false, "", "", 16⟩], 3, 24, .agg #[.int .i64 0, .int .i64 0, .int .i64 0]⟩
def ti353 : TI := ⟨.struct #[⟨"Maker", 2, 0, false, "", "", 0⟩, ⟨"Taker", 2, 1, false, "", "", 8⟩, ⟨"MakerParty", 3, 2, false, "", "", 16⟩, ⟨"TakerParty", 3, 3, false, "", "", 24⟩, ⟨"Price", 2, 4, false, "", "", 32⟩, ⟨"Qty", 2, 5, false, "", "", 40⟩, ⟨"Left", 2, 6, false, "", "", 48⟩], 7, 56, .agg #[.int .i64 0, .int .i64 0, .int .i64 0, .int .i64 0, .int .i64 0, .int .i64 0, .int .i64 0]⟩
def ti354 : TI := ⟨.struct #[⟨"Maker", 2, 0, false, "", "", 0⟩, ⟨"Taker", 2, 1, false, "", "", 8⟩, ⟨"MakerParty", 3, 2, false, "", "", 16⟩, ⟨"TakerParty", 3, 3, false, "", "", 24⟩, ⟨"Price", 2, 4, false, "", "", 32⟩, ⟨"Qty", 2, 5, false, "", "", 40⟩, ⟨"Left", 2, 6, false, "", "", 48⟩], 7, 56, .agg #[.int .i64 0, .int .i64 0, .int .i64 0, .int .i64 0, .int .i64 0, .int .i64 0, .int .i64 0]⟩
def ti356 : TI := ⟨.int .u64, 1, 8, .int .u64 0⟩
def ti359 : TI := ⟨.pointer 3, 1, 8, .pointer none⟩
def ti374 : TI := ⟨.pointer 356, 1, 8, .pointer none⟩
def ti381 : TI := ⟨.pointer 82, 1, 8, .pointer none⟩
def ti393 : TI := ⟨.struct #[⟨"_interface", 17, 0, false, "", "runtime", 0⟩, ⟨"concrete", 17, 1, false, "", "runtime", 8⟩, ⟨"asserted", 17, 2, false, "", "runtime", 16⟩, ⟨"missingMethod", 9, 3, false, "", "runtime", 24⟩], 4, 40, .agg #[.pointer none, .pointer none, .pointer none, .string ⟨#[]⟩]⟩
def ti394 : TI := ⟨.struct #[⟨"_interface", 17, 0, false, "", "runtime", 0⟩, ⟨"concrete", 17, 1, false, "", "runtime", 8⟩, ⟨"asserted", 17, 2, false, "", "runtime", 16⟩, ⟨"missingMethod", 9, 3, false, "", "runtime", 24⟩], 4, 40, .agg #[.pointer none, .pointer none, .pointer none, .string ⟨#[]⟩]⟩
def ti398 : TI := ⟨.int .u8, 1, 1, .int .u8 0⟩
def ti399 : TI := ⟨.int .u8, 1, 1, .int .u8 0⟩
def ti401 : TI := ⟨.pointer 5, 1, 8, .pointer none⟩
def ti402 : TI := ⟨.int .i32, 1, 4, .int .i32 0⟩
def ti403 : TI := ⟨.int .i32, 1, 4, .int .i32 0⟩
def ti404 : TI := ⟨.struct #[⟨"Size_", 12, 0, false, "", "", 0⟩, ⟨"PtrBytes", 12, 1, false, "", "", 8⟩, ⟨"Hash", 318, 2, false, "", "", 16⟩, ⟨"TFlag", 398, 3, false, "", "", 20⟩, ⟨"Align_", 5, 4, false, "", "", 21⟩, ⟨"FieldAlign_", 5, 5, false, "", "", 22⟩, ⟨"Kind_", 399, 6, false, "", "", 23⟩, ⟨"Equal", 400, 7, false, "", "", 24⟩, ⟨"GCData", 401, 8, false, "", "", 32⟩, ⟨"Str", 402, 9, false, "", "", 40⟩, ⟨"PtrToThis", 403, 10, false, "", "", 44⟩], 11, 48, .agg #[.int .u64 0, .int .u64 0, .int .u32 0, .int .u8 0, .int .u8 0, .int .u8 0, .int .u8 0, .nilFunc, .pointer none, .int .i32 0, .int .i32 0]⟩
def ti405 : TI := ⟨.struct #[⟨"Size_", 12, 0, false, "", "", 0⟩, ⟨"PtrBytes", 12, 1, false, "", "", 8⟩, ⟨"Hash", 318, 2, false, "", "", 16⟩, ⟨"TFlag", 398, 3, false, "", "", 20⟩, ⟨"Align_", 5, 4, false, "", "", 21⟩, ⟨"FieldAlign_", 5, 5, false, "", "", 22⟩, ⟨"Kind_", 399, 6, false, "", "", 23⟩, ⟨"Equal", 400, 7, false, "", "", 24⟩, ⟨"GCData", 401, 8, false, "", "", 32⟩, ⟨"Str", 402, 9, false, "", "", 40⟩, ⟨"PtrToThis", 403, 10, false, "", "", 44⟩], 11, 48, .agg #[.int .u64 0, .int .u64 0, .int .u32 0, .int .u8 0, .int .u8 0, .int .u8 0, .int .u8 0, .nilFunc, .pointer none, .int .i32 0, .int .i32 0]⟩
def TT : Tab := [(2, ti2), (3, ti3), (4, ti4), (5, ti5), (6, ti6), (7, ti7), (8, ti8), (9, ti9), (10, ti10), (11, ti11), (12, ti12), (13, ti13), (14, ti14), (15, ti15), (16, ti16), (17, ti17), (18, ti18), (19, ti19), (21, ti21), (22, ti22), (23, ti23), (25, ti25), (27, ti27), (29, ti29), (30, ti30), (36, ti36), (37, ti37), (38, ti38), (45, ti45), (46, ti46), (48, ti48), (49, ti49), (50, ti50), (51, ti51), (52, ti52), (53, ti53), (55, ti55), (58, ti58), (59, ti59), (60, ti60), (61, ti61), (62, ti62), (64, ti64), (70, ti70), (72, ti72), (81, ti81), (82, ti82), (87, ti87), (88, ti88), (89, ti89), (90, ti90), (91, ti91), (92, ti92), (93, ti93), (94, ti94), (95, ti95), (96, ti96), (97, ti97), (98, ti98), (101, ti101), (102, ti102), (104, ti104), (105, ti105), (106, ti106), (109, ti109), (116, ti116), (117, ti117), (121, ti121), (122, ti122), (123, ti123), (125, ti125), (129, ti129), (130, ti130), (131, ti131), (132, ti132), (133, ti133), (134, ti134), (136, ti136), (137, ti137), (148, ti148), (150, ti150), (151, ti151), (156, ti156), (158, ti158), (161, ti161), (162, ti162), (164, ti164), (165, ti165), (166, ti166), (168, ti168), (170, ti170), (172, ti172), (174, ti174), (175, ti175), (176, ti176), (178, ti178), (179, ti179), (180, ti180), (181, ti181), (182, ti182), (183, ti183), (184, ti184), (185, ti185), (186, ti186), (192, ti192), (193, ti193), (199, ti199), (200, ti200), (204, ti204), (205, ti205), (212, ti212), (213, ti213), (215, ti215), (227, ti227), (228, ti228), (229, ti229), (230, ti230), (231, ti231), (232, ti232), (233, ti233), (234, ti234), (235, ti235), (236, ti236), (294, ti294), (295, ti295), (311, ti311), (318, ti318), (325, ti325), (338, ti338), (351, ti351), (352, ti352), (353, ti353), (354, ti354), (356, ti356), (359, ti359), (374, ti374), (381, ti381), (393, ti393), (394, ti394), (398, ti398), (399, ti399), (401, ti401), (402, ti402), (403, ti403), (404, ti404), (405, ti405)]
theorem tg2 : TGood Tryz.prog 2 ti2 := tgood Tryz.underlying2 (by kernel_rfl)
theorem tg3 : TGood Tryz.prog 3 ti3 := tgood Tryz.underlying3 (by kernel_rfl)
theorem tg4 : TGood Tryz.prog 4 ti4 := tgood Tryz.underlying4 (by kernel_rfl)
theorem tg5 : TGood Tryz.prog 5 ti5 := tgood Tryz.underlying5 (by kernel_rfl)
theorem tg6 : TGood Tryz.prog 6 ti6 := tgood Tryz.underlying6 (by kernel_rfl)
theorem tg7 : TGood Tryz.prog 7 ti7 := tgood Tryz.underlying7 (by kernel_rfl)
theorem tg8 : TGood Tryz.prog 8 ti8 := tgood Tryz.underlying8 (by kernel_rfl)
theorem tg9 : TGood Tryz.prog 9 ti9 := tgood Tryz.underlying9 (by kernel_rfl)
theorem tg10 : TGood Tryz.prog 10 ti10 := tgood Tryz.underlying10 (by kernel_rfl)
theorem tg11 : TGood Tryz.prog 11 ti11 := tgood Tryz.underlying11 (by kernel_rfl)
theorem tg12 : TGood Tryz.prog 12 ti12 := tgood Tryz.underlying12 (by kernel_rfl)
theorem tg13 : TGood Tryz.prog 13 ti13 := tgood Tryz.underlying13 (by kernel_rfl)
theorem tg14 : TGood Tryz.prog 14 ti14 := tgood Tryz.underlying14 (by kernel_rfl)
theorem tg15 : TGood Tryz.prog 15 ti15 := tgood Tryz.underlying15 (by kernel_rfl)
theorem tg16 : TGood Tryz.prog 16 ti16 := tgood Tryz.underlying16 (by kernel_rfl)
theorem tg17 : TGood Tryz.prog 17 ti17 := tgood Tryz.underlying17 (by kernel_rfl)
theorem tg18 : TGood Tryz.prog 18 ti18 := tgood Tryz.underlying18 (by kernel_rfl)
theorem tg19 : TGood Tryz.prog 19 ti19 := tgood Tryz.underlying19 (by kernel_rfl)
theorem tg21 : TGood Tryz.prog 21 ti21 := tgood Tryz.underlying21 (by kernel_rfl)
theorem tg22 : TGood Tryz.prog 22 ti22 := tgood Tryz.underlying22 (by kernel_rfl)
theorem tg23 : TGood Tryz.prog 23 ti23 := tgood Tryz.underlying23 (by kernel_rfl)
theorem tg25 : TGood Tryz.prog 25 ti25 := tgood Tryz.underlying25 (by kernel_rfl)
theorem tg27 : TGood Tryz.prog 27 ti27 := tgood Tryz.underlying27 (by kernel_rfl)
theorem tg29 : TGood Tryz.prog 29 ti29 := tgood Tryz.underlying29 (by kernel_rfl)
theorem tg30 : TGood Tryz.prog 30 ti30 := tgood Tryz.underlying30 (by kernel_rfl)
theorem tg36 : TGood Tryz.prog 36 ti36 := tgood Tryz.underlying36 (by kernel_rfl)
theorem tg37 : TGood Tryz.prog 37 ti37 := tgood Tryz.underlying37 (by kernel_rfl)
theorem tg38 : TGood Tryz.prog 38 ti38 := tgood Tryz.underlying38 (by kernel_rfl)
theorem tg45 : TGood Tryz.prog 45 ti45 := tgood Tryz.underlying45 (by kernel_rfl)
theorem tg46 : TGood Tryz.prog 46 ti46 := tgood Tryz.underlying46 (by kernel_rfl)
theorem tg48 : TGood Tryz.prog 48 ti48 := tgood Tryz.underlying48 (by kernel_rfl)
theorem tg49 : TGood Tryz.prog 49 ti49 := tgood Tryz.underlying49 (by kernel_rfl)
theorem tg50 : TGood Tryz.prog 50 ti50 := tgood Tryz.underlying50 (by kernel_rfl)
theorem tg51 : TGood Tryz.prog 51 ti51 := tgood Tryz.underlying51 (by kernel_rfl)
theorem tg52 : TGood Tryz.prog 52 ti52 := tgood Tryz.underlying52 (by kernel_rfl)
theorem tg53 : TGood Tryz.prog 53 ti53 := tgood Tryz.underlying53 (by kernel_rfl)
theorem tg55 : TGood Tryz.prog 55 ti55 := tgood Tryz.underlying55 (by kernel_rfl)
theorem tg58 : TGood Tryz.prog 58 ti58 := tgood Tryz.underlying58 (by kernel_rfl)
theorem tg59 : TGood Tryz.prog 59 ti59 := tgood Tryz.underlying59 (by kernel_rfl)
theorem tg60 : TGood Tryz.prog 60 ti60 := tgood Tryz.underlying60 (by kernel_rfl)
theorem tg61 : TGood Tryz.prog 61 ti61 := tgood Tryz.underlying61 (by kernel_rfl)
theorem tg62 : TGood Tryz.prog 62 ti62 := tgood Tryz.underlying62 (by kernel_rfl)
theorem tg64 : TGood Tryz.prog 64 ti64 := tgood Tryz.underlying64 (by kernel_rfl)
theorem tg70 : TGood Tryz.prog 70 ti70 := tgood Tryz.underlying70 (by kernel_rfl)
theorem tg72 : TGood Tryz.prog 72 ti72 := tgood Tryz.underlying72 (by kernel_rfl)
theorem tg81 : TGood Tryz.prog 81 ti81 := tgood Tryz.underlying81 (by kernel_rfl)
theorem tg82 : TGood Tryz.prog 82 ti82 := tgood Tryz.underlying82 (by kernel_rfl)
theorem tg87 : TGood Tryz.prog 87 ti87 := tgood Tryz.underlying87 (by kernel_rfl)
theorem tg88 : TGood Tryz.prog 88 ti88 := tgood Tryz.underlying88 (by kernel_rfl)
theorem tg89 : TGood Tryz.prog 89 ti89 := tgood Tryz.underlying89 (by kernel_rfl)
theorem tg90 : TGood Tryz.prog 90 ti90 := tgood Tryz.underlying90 (by kernel_rfl)
theorem tg91 : TGood Tryz.prog 91 ti91 := tgood Tryz.underlying91 (by kernel_rfl)
theorem tg92 : TGood Tryz.prog 92 ti92 := tgood Tryz.underlying92 (by kernel_rfl)
theorem tg93 : TGood Tryz.prog 93 ti93 := tgood Tryz.underlying93 (by kernel_rfl)
theorem tg94 : TGood Tryz.prog 94 ti94 := tgood Tryz.underlying94 (by kernel_rfl)
theorem tg95 : TGood Tryz.prog 95 ti95 := tgood Tryz.underlying95 (by kernel_rfl)
theorem tg96 : TGood Tryz.prog 96 ti96 := tgood Tryz.underlying96 (by kernel_rfl)
theorem tg97 : TGood Tryz.prog 97 ti97 := tgood Tryz.underlying97 (by kernel_rfl)
theorem tg98 : TGood Tryz.prog 98 ti98 := tgood Tryz.underlying98 (by kernel_rfl)
theorem tg101 : TGood Tryz.prog 101 ti101 := tgood Tryz.underlying101 (by kernel_rfl)
theorem tg102 : TGood Tryz.prog 102 ti102 := tgood Tryz.underlying102 (by kernel_rfl)
theorem tg104 : TGood Tryz.prog 104 ti104 := tgood Tryz.underlying104 (by kernel_rfl)
theorem tg105 : TGood Tryz.prog 105 ti105 := tgood Tryz.underlying105 (by kernel_rfl)
theorem tg106 : TGood Tryz.prog 106 ti106 := tgood Tryz.underlying106 (by kernel_rfl)
theorem tg109 : TGood Tryz.prog 109 ti109 := tgood Tryz.underlying109 (by kernel_rfl)
theorem tg116 : TGood Tryz.prog 116 ti116 := tgood Tryz.underlying116 (by kernel_rfl)
theorem tg117 : TGood Tryz.prog 117 ti117 := tgood Tryz.underlying117 (by kernel_rfl)
theorem tg121 : TGood Tryz.prog 121 ti121 := tgood Tryz.underlying121 (by kernel_rfl)
theorem tg122 : TGood Tryz.prog 122 ti122 := tgood Tryz.underlying122 (by kernel_rfl)
theorem tg123 : TGood Tryz.prog 123 ti123 := tgood Tryz.underlying123 (by kernel_rfl)
theorem tg125 : TGood Tryz.prog 125 ti125 := tgood Tryz.underlying125 (by kernel_rfl)
theorem tg129 : TGood Tryz.prog 129 ti129 := tgood Tryz.underlying129 (by kernel_rfl)
theorem tg130 : TGood Tryz.prog 130 ti130 := tgood Tryz.underlying130 (by kernel_rfl)
theorem tg131 : TGood Tryz.prog 131 ti131 := tgood Tryz.underlying131 (by kernel_rfl)
theorem tg132 : TGood Tryz.prog 132 ti132 := tgood Tryz.underlying132 (by kernel_rfl)
theorem tg133 : TGood Tryz.prog 133 ti133 := tgood Tryz.underlying133 (by kernel_rfl)
theorem tg134 : TGood Tryz.prog 134 ti134 := tgood Tryz.underlying134 (by kernel_rfl)
theorem tg136 : TGood Tryz.prog 136 ti136 := tgood Tryz.underlying136 (by kernel_rfl)
theorem tg137 : TGood Tryz.prog 137 ti137 := tgood Tryz.underlying137 (by kernel_rfl)
theorem tg148 : TGood Tryz.prog 148 ti148 := tgood Tryz.underlying148 (by kernel_rfl)
theorem tg150 : TGood Tryz.prog 150 ti150 := tgood Tryz.underlying150 (by kernel_rfl)
theorem tg151 : TGood Tryz.prog 151 ti151 := tgood Tryz.underlying151 (by kernel_rfl)
theorem tg156 : TGood Tryz.prog 156 ti156 := tgood Tryz.underlying156 (by kernel_rfl)
theorem tg158 : TGood Tryz.prog 158 ti158 := tgood Tryz.underlying158 (by kernel_rfl)
theorem tg161 : TGood Tryz.prog 161 ti161 := tgood Tryz.underlying161 (by kernel_rfl)
theorem tg162 : TGood Tryz.prog 162 ti162 := tgood Tryz.underlying162 (by kernel_rfl)
theorem tg164 : TGood Tryz.prog 164 ti164 := tgood Tryz.underlying164 (by kernel_rfl)
theorem tg165 : TGood Tryz.prog 165 ti165 := tgood Tryz.underlying165 (by kernel_rfl)
theorem tg166 : TGood Tryz.prog 166 ti166 := tgood Tryz.underlying166 (by kernel_rfl)
theorem tg168 : TGood Tryz.prog 168 ti168 := tgood Tryz.underlying168 (by kernel_rfl)
theorem tg170 : TGood Tryz.prog 170 ti170 := tgood Tryz.underlying170 (by kernel_rfl)
theorem tg172 : TGood Tryz.prog 172 ti172 := tgood Tryz.underlying172 (by kernel_rfl)
theorem tg174 : TGood Tryz.prog 174 ti174 := tgood Tryz.underlying174 (by kernel_rfl)
theorem tg175 : TGood Tryz.prog 175 ti175 := tgood Tryz.underlying175 (by kernel_rfl)
theorem tg176 : TGood Tryz.prog 176 ti176 := tgood Tryz.underlying176 (by kernel_rfl)
theorem tg178 : TGood Tryz.prog 178 ti178 := tgood Tryz.underlying178 (by kernel_rfl)
theorem tg179 : TGood Tryz.prog 179 ti179 := tgood Tryz.underlying179 (by kernel_rfl)
theorem tg180 : TGood Tryz.prog 180 ti180 := tgood Tryz.underlying180 (by kernel_rfl)
theorem tg181 : TGood Tryz.prog 181 ti181 := tgood Tryz.underlying181 (by kernel_rfl)
theorem tg182 : TGood Tryz.prog 182 ti182 := tgood Tryz.underlying182 (by kernel_rfl)
theorem tg183 : TGood Tryz.prog 183 ti183 := tgood Tryz.underlying183 (by kernel_rfl)
theorem tg184 : TGood Tryz.prog 184 ti184 := tgood Tryz.underlying184 (by kernel_rfl)
theorem tg185 : TGood Tryz.prog 185 ti185 := tgood Tryz.underlying185 (by kernel_rfl)
theorem tg186 : TGood Tryz.prog 186 ti186 := tgood Tryz.underlying186 (by kernel_rfl)
theorem tg192 : TGood Tryz.prog 192 ti192 := tgood Tryz.underlying192 (by kernel_rfl)
theorem tg193 : TGood Tryz.prog 193 ti193 := tgood Tryz.underlying193 (by kernel_rfl)
theorem tg199 : TGood Tryz.prog 199 ti199 := tgood Tryz.underlying199 (by kernel_rfl)
theorem tg200 : TGood Tryz.prog 200 ti200 := tgood Tryz.underlying200 (by kernel_rfl)
theorem tg204 : TGood Tryz.prog 204 ti204 := tgood Tryz.underlying204 (by kernel_rfl)
theorem tg205 : TGood Tryz.prog 205 ti205 := tgood Tryz.underlying205 (by kernel_rfl)
theorem tg212 : TGood Tryz.prog 212 ti212 := tgood Tryz.underlying212 (by kernel_rfl)
theorem tg213 : TGood Tryz.prog 213 ti213 := tgood Tryz.underlying213 (by kernel_rfl)
theorem tg215 : TGood Tryz.prog 215 ti215 := tgood Tryz.underlying215 (by kernel_rfl)
theorem tg227 : TGood Tryz.prog 227 ti227 := tgood Tryz.underlying227 (by kernel_rfl)
theorem tg228 : TGood Tryz.prog 228 ti228 := tgood Tryz.underlying228 (by kernel_rfl)
theorem tg229 : TGood Tryz.prog 229 ti229 := tgood Tryz.underlying229 (by kernel_rfl)
theorem tg230 : TGood Tryz.prog 230 ti230 := tgood Tryz.underlying230 (by kernel_rfl)
theorem tg231 : TGood Tryz.prog 231 ti231 := tgood Tryz.underlying231 (by kernel_rfl)
theorem tg232 : TGood Tryz.prog 232 ti232 := tgood Tryz.underlying232 (by kernel_rfl)
theorem tg233 : TGood Tryz.prog 233 ti233 := tgood Tryz.underlying233 (by kernel_rfl)
theorem tg234 : TGood Tryz.prog 234 ti234 := tgood Tryz.underlying234 (by kernel_rfl)
theorem tg235 : TGood Tryz.prog 235 ti235 := tgood Tryz.underlying235 (by kernel_rfl)
theorem tg236 : TGood Tryz.prog 236 ti236 := tgood Tryz.underlying236 (by kernel_rfl)
theorem tg294 : TGood Tryz.prog 294 ti294 := tgood Tryz.underlying294 (by kernel_rfl)
theorem tg295 : TGood Tryz.prog 295 ti295 := tgood Tryz.underlying295 (by kernel_rfl)
theorem tg311 : TGood Tryz.prog 311 ti311 := tgood Tryz.underlying311 (by kernel_rfl)
theorem tg318 : TGood Tryz.prog 318 ti318 := tgood Tryz.underlying318 (by kernel_rfl)
theorem tg325 : TGood Tryz.prog 325 ti325 := tgood Tryz.underlying325 (by kernel_rfl)
theorem tg338 : TGood Tryz.prog 338 ti338 := tgood Tryz.underlying338 (by kernel_rfl)
theorem tg351 : TGood Tryz.prog 351 ti351 := tgood Tryz.underlying351 (by kernel_rfl)
theorem tg352 : TGood Tryz.prog 352 ti352 := tgood Tryz.underlying352 (by kernel_rfl)
theorem tg353 : TGood Tryz.prog 353 ti353 := tgood Tryz.underlying353 (by kernel_rfl)
theorem tg354 : TGood Tryz.prog 354 ti354 := tgood Tryz.underlying354 (by kernel_rfl)
theorem tg356 : TGood Tryz.prog 356 ti356 := tgood Tryz.underlying356 (by kernel_rfl)
theorem tg359 : TGood Tryz.prog 359 ti359 := tgood Tryz.underlying359 (by kernel_rfl)
theorem tg374 : TGood Tryz.prog 374 ti374 := tgood Tryz.underlying374 (by kernel_rfl)
theorem tg381 : TGood Tryz.prog 381 ti381 := tgood Tryz.underlying381 (by kernel_rfl)
theorem tg393 : TGood Tryz.prog 393 ti393 := tgood Tryz.underlying393 (by kernel_rfl)
theorem tg394 : TGood Tryz.prog 394 ti394 := tgood Tryz.underlying394 (by kernel_rfl)
theorem tg398 : TGood Tryz.prog 398 ti398 := tgood Tryz.underlying398 (by kernel_rfl)
theorem tg399 : TGood Tryz.prog 399 ti399 := tgood Tryz.underlying399 (by kernel_rfl)
theorem tg401 : TGood Tryz.prog 401 ti401 := tgood Tryz.underlying401 (by kernel_rfl)
theorem tg402 : TGood Tryz.prog 402 ti402 := tgood Tryz.underlying402 (by kernel_rfl)
theorem tg403 : TGood Tryz.prog 403 ti403 := tgood Tryz.underlying403 (by kernel_rfl)
theorem tg404 : TGood Tryz.prog 404 ti404 := tgood Tryz.underlying404 (by kernel_rfl)
theorem tg405 : TGood Tryz.prog 405 ti405 := tgood Tryz.underlying405 (by kernel_rfl)
theorem hT : TabOK Tryz.prog TT :=
  tab_cons tg2 <| tab_cons tg3 <| tab_cons tg4 <| tab_cons tg5 <| tab_cons tg6 <| tab_cons tg7 <| tab_cons tg8 <| tab_cons tg9 <| tab_cons tg10 <| tab_cons tg11 <| tab_cons tg12 <| tab_cons tg13 <| tab_cons tg14 <| tab_cons tg15 <| tab_cons tg16 <| tab_cons tg17 <| tab_cons tg18 <| tab_cons tg19 <| tab_cons tg21 <| tab_cons tg22 <| tab_cons tg23 <| tab_cons tg25 <| tab_cons tg27 <| tab_cons tg29 <| tab_cons tg30 <| tab_cons tg36 <| tab_cons tg37 <| tab_cons tg38 <| tab_cons tg45 <| tab_cons tg46 <| tab_cons tg48 <| tab_cons tg49 <| tab_cons tg50 <| tab_cons tg51 <| tab_cons tg52 <| tab_cons tg53 <| tab_cons tg55 <| tab_cons tg58 <| tab_cons tg59 <| tab_cons tg60 <| tab_cons tg61 <| tab_cons tg62 <| tab_cons tg64 <| tab_cons tg70 <| tab_cons tg72 <| tab_cons tg81 <| tab_cons tg82 <| tab_cons tg87 <| tab_cons tg88 <| tab_cons tg89 <| tab_cons tg90 <| tab_cons tg91 <| tab_cons tg92 <| tab_cons tg93 <| tab_cons tg94 <| tab_cons tg95 <| tab_cons tg96 <| tab_cons tg97 <| tab_cons tg98 <| tab_cons tg101 <| tab_cons tg102 <| tab_cons tg104 <| tab_cons tg105 <| tab_cons tg106 <| tab_cons tg109 <| tab_cons tg116 <| tab_cons tg117 <| tab_cons tg121 <| tab_cons tg122 <| tab_cons tg123 <| tab_cons tg125 <| tab_cons tg129 <| tab_cons tg130 <| tab_cons tg131 <| tab_cons tg132 <| tab_cons tg133 <| tab_cons tg134 <| tab_cons tg136 <| tab_cons tg137 <| tab_cons tg148 <| tab_cons tg150 <| tab_cons tg151 <| tab_cons tg156 <| tab_cons tg158 <| tab_cons tg161 <| tab_cons tg162 <| tab_cons tg164 <| tab_cons tg165 <| tab_cons tg166 <| tab_cons tg168 <| tab_cons tg170 <| tab_cons tg172 <| tab_cons tg174 <| tab_cons tg175 <| tab_cons tg176 <| tab_cons tg178 <| tab_cons tg179 <| tab_cons tg180 <| tab_cons tg181 <| tab_cons tg182 <| tab_cons tg183 <| tab_cons tg184 <| tab_cons tg185 <| tab_cons tg186 <| tab_cons tg192 <| tab_cons tg193 <| tab_cons tg199 <| tab_cons tg200 <| tab_cons tg204 <| tab_cons tg205 <| tab_cons tg212 <| tab_cons tg213 <| tab_cons tg215 <| tab_cons tg227 <| tab_cons tg228 <| tab_cons tg229 <| tab_cons tg230 <| tab_cons tg231 <| tab_cons tg232 <| tab_cons tg233 <| tab_cons tg234 <| tab_cons tg235 <| tab_cons tg236 <| tab_cons tg294 <| tab_cons tg295 <| tab_cons tg311 <| tab_cons tg318 <| tab_cons tg325 <| tab_cons tg338 <| tab_cons tg351 <| tab_cons tg352 <| tab_cons tg353 <| tab_cons tg354 <| tab_cons tg356 <| tab_cons tg359 <| tab_cons tg374 <| tab_cons tg381 <| tab_cons tg393 <| tab_cons tg394 <| tab_cons tg398 <| tab_cons tg399 <| tab_cons tg401 <| tab_cons tg402 <| tab_cons tg403 <| tab_cons tg404 <| tab_cons tg405 <| tab_nil
theorem hmix : Tryz.prog.follows .mixedOrders = true := by kernel_rfl
end Go.Proofs.YtjcnaeengplcbaaGreat

set_option linter.unusedSimpArgs false
set_option linter.unusedVariables false
namespace Go.Proofs.YtjcnaeengplcbaaGreat
open Go Go.Sl
attribute [local irreducible] AW ES Ld RetQ
set_option maxRecDepth 100000

def cmpI (x y : Int) : Int := if x < y then -1 else if y < x then 1 else 0

end Go.Proofs.YtjcnaeengplcbaaGreat

set_option linter.unusedSimpArgs false
set_option linter.unusedVariables false
namespace Go.Proofs.YtjcnaeengplcbaaGreat
open Go Go.Sl
attribute [local irreducible] AW ES Ld RetQ
set_option maxRecDepth 100000

theorem indexFuncBondR (W : World) (h : List Chunk) (A : Option Addr) (n c : Nat) (l : List BondR) (hn : l.length = n) (hr : Reads W h A n 7 (l.flatMap BondR.enc)) (fn : FuncId) (cap : List Value) (p : BondR → Bool)
    (hf : ∀ x ∈ l, QSpec Tryz.prog W fn ([.agg x.enc.toArray] ++ cap) h (.bool (p x))) (hb : n ≤ 4611686018427387903) :
    QSpec Tryz.prog W 292 [.slice A n c, .func (.func fn) #[] cap.toArray] h (.int .i64 (idxOf p l)) := by
  refine QSpec.of (fun h' hs => ?_)
  have hr' := hr.mono hs
  refine spec_body Tryz.func292 rfl rfl Tryz.results292 Tryz.ntmps292 rfl rfl ?_
  refine aw_reads hr' rfl (fun hA => ?_)
  repeat' (first
    | apply aw_seq | apply aw_region | apply aw_ret | apply aw_skip | apply aw_exit | apply aw_block | apply es_nil
    | (apply es_pure hT; (iterate 4 exact rfl)) | (apply es_skip; (iterate 3 exact rfl)) | (apply es_skip0; (iterate 2 exact rfl))
    | (apply es_i64 hT; (iterate 4 exact rfl); (iterate 2 (first | omega | (dsimp only; omega))))
    | (apply aw_draw [] [] hmix; decide +kernel)
    | (apply es_load; (iterate 5 exact rfl); first | (apply ld_blk hT; exact rfl; exact rfl; (repeat (first | exact List.mem_cons_self | apply List.mem_cons_of_mem)); exact rfl; exact rfl) | (apply ld_all hT; exact rfl; exact rfl; (repeat (first | exact List.mem_cons_self | apply List.mem_cons_of_mem)); exact rfl))
    | (apply es_box; (iterate 5 exact rfl); intro _) | (apply es_alloc hT; (iterate 5 exact rfl); intro _)
    | (apply aw_condT; (iterate 2 exact rfl)) | (apply aw_condF; (iterate 2 exact rfl))
    | (apply es_case; exact rfl; all_goals intro hb; all_goals (fail_if_success (change true = true at hb)); all_goals (fail_if_success (change false = false at hb)); all_goals (try dsimp only at hb); all_goals (try simp only [hb]); all_goals (first | replace hb := of_decide_eq_true hb | replace hb := of_decide_eq_false hb | replace hb := bne_t hb | replace hb := bne_f hb | replace hb := eq_of_beq hb | replace hb := ne_of_beq_false hb | skip); all_goals (try (exfalso; omega)))
    | (apply aw_cond; exact rfl; all_goals intro hb; all_goals (try dsimp only at hb); all_goals (try simp only [hb]); all_goals (first | replace hb := of_decide_eq_true hb | replace hb := of_decide_eq_false hb | replace hb := bne_t hb | replace hb := bne_f hb | replace hb := eq_of_beq hb | replace hb := ne_of_beq_false hb | skip); all_goals (try (exfalso; omega))))
  refine aw_loop (α := Nat) (E := fun k => [(0, .slice A n c), (1, .func (.func fn) #[] cap.toArray), (7, .int .i64 n), (8, .int .i64 k)]) (H := fun _ => h') (μ := fun k => n - k)
    (S := fun k => k ≤ n ∧ ∀ (j : Nat) y, j < k → l[j]? = some y → p y = false) 0 (J := []) ⟨Nat.zero_le _, fun j y hj => by omega⟩ ⟨rfl, rfl, rfl, rfl, trivial⟩ (List.Perm.refl _) ?_
  rintro k ⟨hk1, hk2⟩
  by_cases hlt : k < n
  · obtain ⟨x, hx⟩ : ∃ x, l[k]? = some x := ⟨l[k]'(by omega), List.getElem?_eq_getElem (by omega)⟩
    have hx2 : l[(k : Int).toNat]? = some x := by simpa using hx
    have hfx := (hf x (List.mem_of_getElem? hx)).mono hs
    have hA' := hA (by omega)
    repeat' (first
      | apply aw_seq | apply aw_region | apply aw_ret | apply aw_skip | apply aw_exit | apply aw_block | apply es_nil
      | (apply es_pure hT; (iterate 4 exact rfl)) | (apply es_skip; (iterate 3 exact rfl)) | (apply es_skip0; (iterate 2 exact rfl))
      | (apply es_i64 hT; (iterate 4 exact rfl); (iterate 2 (first | omega | (dsimp only; omega))))
      | (apply aw_draw [] [] hmix; decide +kernel)
      | (apply es_idx hT; (iterate 8 exact rfl); (iterate 2 omega); exact hA')
      | (apply es_load; (iterate 5 exact rfl); exact ld_elem hT rfl rfl hr' BondR.enc_len rfl hx2 rfl)
      | (apply es_callQ (hs := hfx); (iterate 7 exact rfl))
      | (apply es_load; (iterate 5 exact rfl); first | (apply ld_blk hT; exact rfl; exact rfl; (repeat (first | exact List.mem_cons_self | apply List.mem_cons_of_mem)); exact rfl; exact rfl) | (apply ld_all hT; exact rfl; exact rfl; (repeat (first | exact List.mem_cons_self | apply List.mem_cons_of_mem)); exact rfl))
      | (apply es_box; (iterate 5 exact rfl); intro _) | (apply es_alloc hT; (iterate 5 exact rfl); intro _)
      | (apply aw_condT; (iterate 2 exact rfl)) | (apply aw_condF; (iterate 2 exact rfl))
      | (apply es_case; exact rfl; all_goals intro hb; all_goals (fail_if_success (change true = true at hb)); all_goals (fail_if_success (change false = false at hb)); all_goals (try dsimp only at hb); all_goals (try simp only [hb]); all_goals (first | replace hb := of_decide_eq_true hb | replace hb := of_decide_eq_false hb | replace hb := bne_t hb | replace hb := bne_f hb | replace hb := eq_of_beq hb | replace hb := ne_of_beq_false hb | skip); all_goals (try (exfalso; omega)))
      | (apply aw_cond; exact rfl; all_goals intro hb; all_goals (try dsimp only at hb); all_goals (try simp only [hb]); all_goals (first | replace hb := of_decide_eq_true hb | replace hb := of_decide_eq_false hb | replace hb := bne_t hb | replace hb := bne_f hb | replace hb := eq_of_beq hb | replace hb := ne_of_beq_false hb | skip); all_goals (try (exfalso; omega))))
    · exact retQ1 (J := []) rfl (by rw [idxOf_at hx hb hk2]) (List.Perm.refl _)
    · have hpx := hb
      refine ⟨k + 1, [], by dsimp only; omega, ⟨by omega, fun j y hj hy => ?_⟩, ⟨rfl, rfl, rfl, rfl, trivial⟩, List.Perm.refl _⟩
      by_cases hjk : j < k
      · exact hk2 j y hjk hy
      · obtain rfl : j = k := by omega
        rw [hx] at hy; cases hy; exact hpx
  · repeat' (first
      | apply aw_seq | apply aw_region | apply aw_ret | apply aw_skip | apply aw_exit | apply aw_block | apply es_nil
      | (apply es_pure hT; (iterate 4 exact rfl)) | (apply es_skip; (iterate 3 exact rfl)) | (apply es_skip0; (iterate 2 exact rfl))
      | (apply es_i64 hT; (iterate 4 exact rfl); (iterate 2 (first | omega | (dsimp only; omega))))
      | (apply aw_draw [] [] hmix; decide +kernel)
      | (apply es_load; (iterate 5 exact rfl); first | (apply ld_blk hT; exact rfl; exact rfl; (repeat (first | exact List.mem_cons_self | apply List.mem_cons_of_mem)); exact rfl; exact rfl) | (apply ld_all hT; exact rfl; exact rfl; (repeat (first | exact List.mem_cons_self | apply List.mem_cons_of_mem)); exact rfl))
      | (apply es_box; (iterate 5 exact rfl); intro _) | (apply es_alloc hT; (iterate 5 exact rfl); intro _)
      | (apply aw_condT; (iterate 2 exact rfl)) | (apply aw_condF; (iterate 2 exact rfl))
      | (apply es_case; exact rfl; all_goals intro hb; all_goals (fail_if_success (change true = true at hb)); all_goals (fail_if_success (change false = false at hb)); all_goals (try dsimp only at hb); all_goals (try simp only [hb]); all_goals (first | replace hb := of_decide_eq_true hb | replace hb := of_decide_eq_false hb | replace hb := bne_t hb | replace hb := bne_f hb | replace hb := eq_of_beq hb | replace hb := ne_of_beq_false hb | skip); all_goals (try (exfalso; omega)))
      | (apply aw_cond; exact rfl; all_goals intro hb; all_goals (try dsimp only at hb); all_goals (try simp only [hb]); all_goals (first | replace hb := of_decide_eq_true hb | replace hb := of_decide_eq_false hb | replace hb := bne_t hb | replace hb := bne_f hb | replace hb := eq_of_beq hb | replace hb := ne_of_beq_false hb | skip); all_goals (try (exfalso; omega))))
    exact retQ1 (J := []) rfl (by rw [idxOf_none (fun (j : Nat) y hj => hk2 j y (by have := (List.getElem?_eq_some_iff.1 hj).1; omega) hj)]) (List.Perm.refl _)

theorem containsFuncBondR (W : World) (h : List Chunk) (A : Option Addr) (n c : Nat) (l : List BondR) (hn : l.length = n) (hr : Reads W h A n 7 (l.flatMap BondR.enc)) (fn : FuncId) (cap : List Value) (p : BondR → Bool)
    (hf : ∀ x ∈ l, QSpec Tryz.prog W fn ([.agg x.enc.toArray] ++ cap) h (.bool (p x))) (hb : n ≤ 4611686018427387903) :
    QSpec Tryz.prog W 207 [.slice A n c, .func (.func fn) #[] cap.toArray] h (.bool (decide (idxOf p l ≥ 0))) := by
  refine QSpec.of (fun h' hs => ?_)
  refine spec_body Tryz.func207 rfl rfl Tryz.results207 Tryz.ntmps207 rfl rfl ?_
  repeat' (first
    | apply aw_seq | apply aw_region | apply aw_ret | apply aw_skip | apply aw_exit | apply aw_block | apply es_nil
    | (apply es_pure hT; (iterate 4 exact rfl)) | (apply es_skip; (iterate 3 exact rfl)) | (apply es_skip0; (iterate 2 exact rfl))
    | (apply es_i64 hT; (iterate 4 exact rfl); (iterate 2 (first | omega | (dsimp only; omega))))
    | (apply aw_draw [] [] hmix; decide +kernel)
    | (apply es_callQ (hs := ((indexFuncBondR W h A n c l hn hr fn cap p hf hb).mono hs)); (iterate 7 exact rfl))
    | (apply es_load; (iterate 5 exact rfl); first | (apply ld_blk hT; exact rfl; exact rfl; (repeat (first | exact List.mem_cons_self | apply List.mem_cons_of_mem)); exact rfl; exact rfl) | (apply ld_all hT; exact rfl; exact rfl; (repeat (first | exact List.mem_cons_self | apply List.mem_cons_of_mem)); exact rfl))
    | (apply es_box; (iterate 5 exact rfl); intro _) | (apply es_alloc hT; (iterate 5 exact rfl); intro _)
    | (apply aw_condT; (iterate 2 exact rfl)) | (apply aw_condF; (iterate 2 exact rfl))
    | (apply es_case; exact rfl; all_goals intro hb; all_goals (fail_if_success (change true = true at hb)); all_goals (fail_if_success (change false = false at hb)); all_goals (try dsimp only at hb); all_goals (try simp only [hb]); all_goals (first | replace hb := of_decide_eq_true hb | replace hb := of_decide_eq_false hb | replace hb := bne_t hb | replace hb := bne_f hb | replace hb := eq_of_beq hb | replace hb := ne_of_beq_false hb | skip); all_goals (try (exfalso; omega)))
    | (apply aw_cond; exact rfl; all_goals intro hb; all_goals (try dsimp only at hb); all_goals (try simp only [hb]); all_goals (first | replace hb := of_decide_eq_true hb | replace hb := of_decide_eq_false hb | replace hb := bne_t hb | replace hb := bne_f hb | replace hb := eq_of_beq hb | replace hb := ne_of_beq_false hb | skip); all_goals (try (exfalso; omega))))
  exact retQ1 (J := []) rfl rfl (List.Perm.refl _)

theorem cloneBondR (W : World) (h : List Chunk) (A : Option Addr) (n c : Nat) (cs : List Value) (hr : Reads W h A n 7 cs) (hb : n * 56 ≤ 140737488355328) :
    FSpec Tryz.prog W 95 [.slice A n c] h (fun v h' => ∃ A' c', v = .slice A' n c' ∧ h' = .own A' n c' 162 7 cs :: h) := by
  refine FSpec.drop ?_
  refine spec_body Tryz.func95 rfl rfl Tryz.results95 Tryz.ntmps95 rfl rfl ?_
  refine aw_reads hr rfl (fun hA => ?_)
  cases A with
  | none =>
    have hn : n = 0 := by
      rcases Nat.eq_zero_or_pos n with h | h
      · exact h
      · have := hA h; simp at this
    subst hn
    have hcs : cs = [] := List.eq_nil_of_length_eq_zero (by simpa using hr.len)
    subst hcs
    refine aw_conv (fun w hw => ⟨_, hw.own_nil 162 7, ?_⟩)
    repeat' (first
      | apply aw_seq | apply aw_region | apply aw_ret | apply aw_skip | apply aw_exit | apply aw_block | apply es_nil
      | (apply es_pure hT; (iterate 4 exact rfl)) | (apply es_skip; (iterate 3 exact rfl)) | (apply es_skip0; (iterate 2 exact rfl))
      | (apply es_i64 hT; (iterate 4 exact rfl); (iterate 2 (first | omega | (dsimp only; omega))))
      | (apply aw_draw [] [] hmix; decide +kernel)
      | (apply es_load; (iterate 5 exact rfl); first | (apply ld_blk hT; exact rfl; exact rfl; (repeat (first | exact List.mem_cons_self | apply List.mem_cons_of_mem)); exact rfl; exact rfl) | (apply ld_all hT; exact rfl; exact rfl; (repeat (first | exact List.mem_cons_self | apply List.mem_cons_of_mem)); exact rfl))
      | (apply es_box; (iterate 5 exact rfl); intro _) | (apply es_alloc hT; (iterate 5 exact rfl); intro _)
      | (apply aw_condT; (iterate 2 exact rfl)) | (apply aw_condF; (iterate 2 exact rfl))
      | (apply es_case; exact rfl; all_goals intro hb; all_goals (fail_if_success (change true = true at hb)); all_goals (fail_if_success (change false = false at hb)); all_goals (try dsimp only at hb); all_goals (try simp only [hb]); all_goals (first | replace hb := of_decide_eq_true hb | replace hb := of_decide_eq_false hb | replace hb := bne_t hb | replace hb := bne_f hb | replace hb := eq_of_beq hb | replace hb := ne_of_beq_false hb | skip); all_goals (try (exfalso; omega)))
      | (apply aw_cond; exact rfl; all_goals intro hb; all_goals (try dsimp only at hb); all_goals (try simp only [hb]); all_goals (first | replace hb := of_decide_eq_true hb | replace hb := of_decide_eq_false hb | replace hb := bne_t hb | replace hb := bne_f hb | replace hb := eq_of_beq hb | replace hb := ne_of_beq_false hb | skip); all_goals (try (exfalso; omega))))
    apply ret1; exact rfl
    exact ⟨[], _, List.Perm.refl _, none, 0, rfl, rfl⟩
  | some ad =>
    repeat' (first
      | apply aw_seq | apply aw_region | apply aw_ret | apply aw_skip | apply aw_exit | apply aw_block | apply es_nil
      | (apply es_pure hT; (iterate 4 exact rfl)) | (apply es_skip; (iterate 3 exact rfl)) | (apply es_skip0; (iterate 2 exact rfl))
      | (apply es_i64 hT; (iterate 4 exact rfl); (iterate 2 (first | omega | (dsimp only; omega))))
      | (apply aw_draw [] [] hmix; decide +kernel)
      | (apply es_buildSlice hT; (iterate 12 exact rfl); intro g1)
      | (apply es_append hT; (iterate 10 exact rfl); exact sel0; exact hr.cons; omega; (show (0 + n) * 56 ≤ _; omega); intro A' c')
      | (apply es_load; (iterate 5 exact rfl); first | (apply ld_blk hT; exact rfl; exact rfl; (repeat (first | exact List.mem_cons_self | apply List.mem_cons_of_mem)); exact rfl; exact rfl) | (apply ld_all hT; exact rfl; exact rfl; (repeat (first | exact List.mem_cons_self | apply List.mem_cons_of_mem)); exact rfl))
      | (apply es_box; (iterate 5 exact rfl); intro _) | (apply es_alloc hT; (iterate 5 exact rfl); intro _)
      | (apply aw_condT; (iterate 2 exact rfl)) | (apply aw_condF; (iterate 2 exact rfl))
      | (apply es_case; exact rfl; all_goals intro hb; all_goals (fail_if_success (change true = true at hb)); all_goals (fail_if_success (change false = false at hb)); all_goals (try dsimp only at hb); all_goals (try simp only [hb]); all_goals (first | replace hb := of_decide_eq_true hb | replace hb := of_decide_eq_false hb | replace hb := bne_t hb | replace hb := bne_f hb | replace hb := eq_of_beq hb | replace hb := ne_of_beq_false hb | skip); all_goals (try (exfalso; omega)))
      | (apply aw_cond; exact rfl; all_goals intro hb; all_goals (try dsimp only at hb); all_goals (try simp only [hb]); all_goals (first | replace hb := of_decide_eq_true hb | replace hb := of_decide_eq_false hb | replace hb := bne_t hb | replace hb := bne_f hb | replace hb := eq_of_beq hb | replace hb := ne_of_beq_false hb | skip); all_goals (try (exfalso; omega))))
    apply ret1; exact rfl
    refine ⟨[], _, List.Perm.refl _, A', c', by rw [Nat.zero_add], ?_⟩
    show Chunk.own A' (0 + n) c' 162 7 ([] ++ cs) :: h = _
    simp

end Go.Proofs.YtjcnaeengplcbaaGreat

set_option linter.unusedSimpArgs false
set_option linter.unusedVariables false
namespace Go.Proofs.YtjcnaeengplcbaaGreat
open Go Go.Sl
attribute [local irreducible] AW ES Ld RetQ
set_option maxRecDepth 100000

theorem indexFuncPartyR (W : World) (h : List Chunk) (A : Option Addr) (n c : Nat) (l : List PartyR) (hn : l.length = n) (hr : Reads W h A n 3 (l.flatMap PartyR.enc)) (fn : FuncId) (cap : List Value) (p : PartyR → Bool)
    (hf : ∀ x ∈ l, QSpec Tryz.prog W fn ([.agg x.enc.toArray] ++ cap) h (.bool (p x))) (hb : n ≤ 4611686018427387903) :
    QSpec Tryz.prog W 293 [.slice A n c, .func (.func fn) #[] cap.toArray] h (.int .i64 (idxOf p l)) := by
  refine QSpec.of (fun h' hs => ?_)
  have hr' := hr.mono hs
  refine spec_body Tryz.func293 rfl rfl Tryz.results293 Tryz.ntmps293 rfl rfl ?_
  refine aw_reads hr' rfl (fun hA => ?_)
  repeat' (first
    | apply aw_seq | apply aw_region | apply aw_ret | apply aw_skip | apply aw_exit | apply aw_block | apply es_nil
    | (apply es_pure hT; (iterate 4 exact rfl)) | (apply es_skip; (iterate 3 exact rfl)) | (apply es_skip0; (iterate 2 exact rfl))
    | (apply es_i64 hT; (iterate 4 exact rfl); (iterate 2 (first | omega | (dsimp only; omega))))
    | (apply aw_draw [] [] hmix; decide +kernel)
    | (apply es_load; (iterate 5 exact rfl); first | (apply ld_blk hT; exact rfl; exact rfl; (repeat (first | exact List.mem_cons_self | apply List.mem_cons_of_mem)); exact rfl; exact rfl) | (apply ld_all hT; exact rfl; exact rfl; (repeat (first | exact List.mem_cons_self | apply List.mem_cons_of_mem)); exact rfl))
    | (apply es_box; (iterate 5 exact rfl); intro _) | (apply es_alloc hT; (iterate 5 exact rfl); intro _)
    | (apply aw_condT; (iterate 2 exact rfl)) | (apply aw_condF; (iterate 2 exact rfl))
    | (apply es_case; exact rfl; all_goals intro hb; all_goals (fail_if_success (change true = true at hb)); all_goals (fail_if_success (change false = false at hb)); all_goals (try dsimp only at hb); all_goals (try simp only [hb]); all_goals (first | replace hb := of_decide_eq_true hb | replace hb := of_decide_eq_false hb | replace hb := bne_t hb | replace hb := bne_f hb | replace hb := eq_of_beq hb | replace hb := ne_of_beq_false hb | skip); all_goals (try (exfalso; omega)))
    | (apply aw_cond; exact rfl; all_goals intro hb; all_goals (try dsimp only at hb); all_goals (try simp only [hb]); all_goals (first | replace hb := of_decide_eq_true hb | replace hb := of_decide_eq_false hb | replace hb := bne_t hb | replace hb := bne_f hb | replace hb := eq_of_beq hb | replace hb := ne_of_beq_false hb | skip); all_goals (try (exfalso; omega))))
  refine aw_loop (α := Nat) (E := fun k => [(0, .slice A n c), (1, .func (.func fn) #[] cap.toArray), (7, .int .i64 n), (8, .int .i64 k)]) (H := fun _ => h') (μ := fun k => n - k)
    (S := fun k => k ≤ n ∧ ∀ (j : Nat) y, j < k → l[j]? = some y → p y = false) 0 (J := []) ⟨Nat.zero_le _, fun j y hj => by omega⟩ ⟨rfl, rfl, rfl, rfl, trivial⟩ (List.Perm.refl _) ?_
  rintro k ⟨hk1, hk2⟩
  by_cases hlt : k < n
  · obtain ⟨x, hx⟩ : ∃ x, l[k]? = some x := ⟨l[k]'(by omega), List.getElem?_eq_getElem (by omega)⟩
    have hx2 : l[(k : Int).toNat]? = some x := by simpa using hx
    have hfx := (hf x (List.mem_of_getElem? hx)).mono hs
    have hA' := hA (by omega)
    repeat' (first
      | apply aw_seq | apply aw_region | apply aw_ret | apply aw_skip | apply aw_exit | apply aw_block | apply es_nil
      | (apply es_pure hT; (iterate 4 exact rfl)) | (apply es_skip; (iterate 3 exact rfl)) | (apply es_skip0; (iterate 2 exact rfl))
      | (apply es_i64 hT; (iterate 4 exact rfl); (iterate 2 (first | omega | (dsimp only; omega))))
      | (apply aw_draw [] [] hmix; decide +kernel)
      | (apply es_idx hT; (iterate 8 exact rfl); (iterate 2 omega); exact hA')
      | (apply es_load; (iterate 5 exact rfl); exact ld_elem hT rfl rfl hr' PartyR.enc_len rfl hx2 rfl)
      | (apply es_callQ (hs := hfx); (iterate 7 exact rfl))
      | (apply es_load; (iterate 5 exact rfl); first | (apply ld_blk hT; exact rfl; exact rfl; (repeat (first | exact List.mem_cons_self | apply List.mem_cons_of_mem)); exact rfl; exact rfl) | (apply ld_all hT; exact rfl; exact rfl; (repeat (first | exact List.mem_cons_self | apply List.mem_cons_of_mem)); exact rfl))
      | (apply es_box; (iterate 5 exact rfl); intro _) | (apply es_alloc hT; (iterate 5 exact rfl); intro _)
      | (apply aw_condT; (iterate 2 exact rfl)) | (apply aw_condF; (iterate 2 exact rfl))
      | (apply es_case; exact rfl; all_goals intro hb; all_goals (fail_if_success (change true = true at hb)); all_goals (fail_if_success (change false = false at hb)); all_goals (try dsimp only at hb); all_goals (try simp only [hb]); all_goals (first | replace hb := of_decide_eq_true hb | replace hb := of_decide_eq_false hb | replace hb := bne_t hb | replace hb := bne_f hb | replace hb := eq_of_beq hb | replace hb := ne_of_beq_false hb | skip); all_goals (try (exfalso; omega)))
      | (apply aw_cond; exact rfl; all_goals intro hb; all_goals (try dsimp only at hb); all_goals (try simp only [hb]); all_goals (first | replace hb := of_decide_eq_true hb | replace hb := of_decide_eq_false hb | replace hb := bne_t hb | replace hb := bne_f hb | replace hb := eq_of_beq hb | replace hb := ne_of_beq_false hb | skip); all_goals (try (exfalso; omega))))
    · exact retQ1 (J := []) rfl (by rw [idxOf_at hx hb hk2]) (List.Perm.refl _)
    · have hpx := hb
      refine ⟨k + 1, [], by dsimp only; omega, ⟨by omega, fun j y hj hy => ?_⟩, ⟨rfl, rfl, rfl, rfl, trivial⟩, List.Perm.refl _⟩
      by_cases hjk : j < k
      · exact hk2 j y hjk hy
      · obtain rfl : j = k := by omega
        rw [hx] at hy; cases hy; exact hpx
  · repeat' (first
      | apply aw_seq | apply aw_region | apply aw_ret | apply aw_skip | apply aw_exit | apply aw_block | apply es_nil
      | (apply es_pure hT; (iterate 4 exact rfl)) | (apply es_skip; (iterate 3 exact rfl)) | (apply es_skip0; (iterate 2 exact rfl))
      | (apply es_i64 hT; (iterate 4 exact rfl); (iterate 2 (first | omega | (dsimp only; omega))))
      | (apply aw_draw [] [] hmix; decide +kernel)
      | (apply es_load; (iterate 5 exact rfl); first | (apply ld_blk hT; exact rfl; exact rfl; (repeat (first | exact List.mem_cons_self | apply List.mem_cons_of_mem)); exact rfl; exact rfl) | (apply ld_all hT; exact rfl; exact rfl; (repeat (first | exact List.mem_cons_self | apply List.mem_cons_of_mem)); exact rfl))
      | (apply es_box; (iterate 5 exact rfl); intro _) | (apply es_alloc hT; (iterate 5 exact rfl); intro _)
      | (apply aw_condT; (iterate 2 exact rfl)) | (apply aw_condF; (iterate 2 exact rfl))
      | (apply es_case; exact rfl; all_goals intro hb; all_goals (fail_if_success (change true = true at hb)); all_goals (fail_if_success (change false = false at hb)); all_goals (try dsimp only at hb); all_goals (try simp only [hb]); all_goals (first | replace hb := of_decide_eq_true hb | replace hb := of_decide_eq_false hb | replace hb := bne_t hb | replace hb := bne_f hb | replace hb := eq_of_beq hb | replace hb := ne_of_beq_false hb | skip); all_goals (try (exfalso; omega)))
      | (apply aw_cond; exact rfl; all_goals intro hb; all_goals (try dsimp only at hb); all_goals (try simp only [hb]); all_goals (first | replace hb := of_decide_eq_true hb | replace hb := of_decide_eq_false hb | replace hb := bne_t hb | replace hb := bne_f hb | replace hb := eq_of_beq hb | replace hb := ne_of_beq_false hb | skip); all_goals (try (exfalso; omega))))
    exact retQ1 (J := []) rfl (by rw [idxOf_none (fun (j : Nat) y hj => hk2 j y (by have := (List.getElem?_eq_some_iff.1 hj).1; omega) hj)]) (List.Perm.refl _)

theorem containsFuncPartyR (W : World) (h : List Chunk) (A : Option Addr) (n c : Nat) (l : List PartyR) (hn : l.length = n) (hr : Reads W h A n 3 (l.flatMap PartyR.enc)) (fn : FuncId) (cap : List Value) (p : PartyR → Bool)
    (hf : ∀ x ∈ l, QSpec Tryz.prog W fn ([.agg x.enc.toArray] ++ cap) h (.bool (p x))) (hb : n ≤ 4611686018427387903) :
    QSpec Tryz.prog W 208 [.slice A n c, .func (.func fn) #[] cap.toArray] h (.bool (decide (idxOf p l ≥ 0))) := by
  refine QSpec.of (fun h' hs => ?_)
  refine spec_body Tryz.func208 rfl rfl Tryz.results208 Tryz.ntmps208 rfl rfl ?_
  repeat' (first
    | apply aw_seq | apply aw_region | apply aw_ret | apply aw_skip | apply aw_exit | apply aw_block | apply es_nil
    | (apply es_pure hT; (iterate 4 exact rfl)) | (apply es_skip; (iterate 3 exact rfl)) | (apply es_skip0; (iterate 2 exact rfl))
    | (apply es_i64 hT; (iterate 4 exact rfl); (iterate 2 (first | omega | (dsimp only; omega))))
    | (apply aw_draw [] [] hmix; decide +kernel)
    | (apply es_callQ (hs := ((indexFuncPartyR W h A n c l hn hr fn cap p hf hb).mono hs)); (iterate 7 exact rfl))
    | (apply es_load; (iterate 5 exact rfl); first | (apply ld_blk hT; exact rfl; exact rfl; (repeat (first | exact List.mem_cons_self | apply List.mem_cons_of_mem)); exact rfl; exact rfl) | (apply ld_all hT; exact rfl; exact rfl; (repeat (first | exact List.mem_cons_self | apply List.mem_cons_of_mem)); exact rfl))
    | (apply es_box; (iterate 5 exact rfl); intro _) | (apply es_alloc hT; (iterate 5 exact rfl); intro _)
    | (apply aw_condT; (iterate 2 exact rfl)) | (apply aw_condF; (iterate 2 exact rfl))
    | (apply es_case; exact rfl; all_goals intro hb; all_goals (fail_if_success (change true = true at hb)); all_goals (fail_if_success (change false = false at hb)); all_goals (try dsimp only at hb); all_goals (try simp only [hb]); all_goals (first | replace hb := of_decide_eq_true hb | replace hb := of_decide_eq_false hb | replace hb := bne_t hb | replace hb := bne_f hb | replace hb := eq_of_beq hb | replace hb := ne_of_beq_false hb | skip); all_goals (try (exfalso; omega)))
    | (apply aw_cond; exact rfl; all_goals intro hb; all_goals (try dsimp only at hb); all_goals (try simp only [hb]); all_goals (first | replace hb := of_decide_eq_true hb | replace hb := of_decide_eq_false hb | replace hb := bne_t hb | replace hb := bne_f hb | replace hb := eq_of_beq hb | replace hb := ne_of_beq_false hb | skip); all_goals (try (exfalso; omega))))
  exact retQ1 (J := []) rfl rfl (List.Perm.refl _)

theorem clonePartyR (W : World) (h : List Chunk) (A : Option Addr) (n c : Nat) (cs : List Value) (hr : Reads W h A n 3 cs) (hb : n * 24 ≤ 140737488355328) :
    FSpec Tryz.prog W 96 [.slice A n c] h (fun v h' => ∃ A' c', v = .slice A' n c' ∧ h' = .own A' n c' 165 3 cs :: h) := by
  refine FSpec.drop ?_
  refine spec_body Tryz.func96 rfl rfl Tryz.results96 Tryz.ntmps96 rfl rfl ?_
  refine aw_reads hr rfl (fun hA => ?_)
  cases A with
  | none =>
    have hn : n = 0 := by
      rcases Nat.eq_zero_or_pos n with h | h
      · exact h
      · have := hA h; simp at this
    subst hn
    have hcs : cs = [] := List.eq_nil_of_length_eq_zero (by simpa using hr.len)
    subst hcs
    refine aw_conv (fun w hw => ⟨_, hw.own_nil 165 3, ?_⟩)
    repeat' (first
      | apply aw_seq | apply aw_region | apply aw_ret | apply aw_skip | apply aw_exit | apply aw_block | apply es_nil
      | (apply es_pure hT; (iterate 4 exact rfl)) | (apply es_skip; (iterate 3 exact rfl)) | (apply es_skip0; (iterate 2 exact rfl))
      | (apply es_i64 hT; (iterate 4 exact rfl); (iterate 2 (first | omega | (dsimp only; omega))))
      | (apply aw_draw [] [] hmix; decide +kernel)
      | (apply es_load; (iterate 5 exact rfl); first | (apply ld_blk hT; exact rfl; exact rfl; (repeat (first | exact List.mem_cons_self | apply List.mem_cons_of_mem)); exact rfl; exact rfl) | (apply ld_all hT; exact rfl; exact rfl; (repeat (first | exact List.mem_cons_self | apply List.mem_cons_of_mem)); exact rfl))
      | (apply es_box; (iterate 5 exact rfl); intro _) | (apply es_alloc hT; (iterate 5 exact rfl); intro _)
      | (apply aw_condT; (iterate 2 exact rfl)) | (apply aw_condF; (iterate 2 exact rfl))
      | (apply es_case; exact rfl; all_goals intro hb; all_goals (fail_if_success (change true = true at hb)); all_goals (fail_if_success (change false = false at hb)); all_goals (try dsimp only at hb); all_goals (try simp only [hb]); all_goals (first | replace hb := of_decide_eq_true hb | replace hb := of_decide_eq_false hb | replace hb := bne_t hb | replace hb := bne_f hb | replace hb := eq_of_beq hb | replace hb := ne_of_beq_false hb | skip); all_goals (try (exfalso; omega)))
      | (apply aw_cond; exact rfl; all_goals intro hb; all_goals (try dsimp only at hb); all_goals (try simp only [hb]); all_goals (first | replace hb := of_decide_eq_true hb | replace hb := of_decide_eq_false hb | replace hb := bne_t hb | replace hb := bne_f hb | replace hb := eq_of_beq hb | replace hb := ne_of_beq_false hb | skip); all_goals (try (exfalso; omega))))
    apply ret1; exact rfl
    exact ⟨[], _, List.Perm.refl _, none, 0, rfl, rfl⟩
  | some ad =>
    repeat' (first
      | apply aw_seq | apply aw_region | apply aw_ret | apply aw_skip | apply aw_exit | apply aw_block | apply es_nil
      | (apply es_pure hT; (iterate 4 exact rfl)) | (apply es_skip; (iterate 3 exact rfl)) | (apply es_skip0; (iterate 2 exact rfl))
      | (apply es_i64 hT; (iterate 4 exact rfl); (iterate 2 (first | omega | (dsimp only; omega))))
      | (apply aw_draw [] [] hmix; decide +kernel)
      | (apply es_buildSlice hT; (iterate 12 exact rfl); intro g1)
      | (apply es_append hT; (iterate 10 exact rfl); exact sel0; exact hr.cons; omega; (show (0 + n) * 24 ≤ _; omega); intro A' c')
      | (apply es_load; (iterate 5 exact rfl); first | (apply ld_blk hT; exact rfl; exact rfl; (repeat (first | exact List.mem_cons_self | apply List.mem_cons_of_mem)); exact rfl; exact rfl) | (apply ld_all hT; exact rfl; exact rfl; (repeat (first | exact List.mem_cons_self | apply List.mem_cons_of_mem)); exact rfl))
      | (apply es_box; (iterate 5 exact rfl); intro _) | (apply es_alloc hT; (iterate 5 exact rfl); intro _)
      | (apply aw_condT; (iterate 2 exact rfl)) | (apply aw_condF; (iterate 2 exact rfl))
      | (apply es_case; exact rfl; all_goals intro hb; all_goals (fail_if_success (change true = true at hb)); all_goals (fail_if_success (change false = false at hb)); all_goals (try dsimp only at hb); all_goals (try simp only [hb]); all_goals (first | replace hb := of_decide_eq_true hb | replace hb := of_decide_eq_false hb | replace hb := bne_t hb | replace hb := bne_f hb | replace hb := eq_of_beq hb | replace hb := ne_of_beq_false hb | skip); all_goals (try (exfalso; omega)))
      | (apply aw_cond; exact rfl; all_goals intro hb; all_goals (try dsimp only at hb); all_goals (try simp only [hb]); all_goals (first | replace hb := of_decide_eq_true hb | replace hb := of_decide_eq_false hb | replace hb := bne_t hb | replace hb := bne_f hb | replace hb := eq_of_beq hb | replace hb := ne_of_beq_false hb | skip); all_goals (try (exfalso; omega))))
    apply ret1; exact rfl
    refine ⟨[], _, List.Perm.refl _, A', c', by rw [Nat.zero_add], ?_⟩
    show Chunk.own A' (0 + n) c' 165 3 ([] ++ cs) :: h = _
    simp

end Go.Proofs.YtjcnaeengplcbaaGreat

set_option linter.unusedSimpArgs false
set_option linter.unusedVariables false
namespace Go.Proofs.YtjcnaeengplcbaaGreat
open Go Go.Sl
attribute [local irreducible] AW ES EP Ld RetQ
set_option maxRecDepth 100000

theorem bond_in (W : World) (n a b : Int) : QSpec Tryz.prog W 291 [.int .i64 n, .int .i64 a, .int .i64 b] [] (.bool (inB n a b)) := by
  refine QSpec.ofD (fun h' hs => ?_)
  refine spec_body Tryz.func291 rfl rfl Tryz.results291 Tryz.ntmps291 rfl rfl ?_
  repeat' (first
    | apply aw_seq | apply aw_region | apply aw_ret | apply aw_skip | apply aw_exit | apply aw_block | apply es_nil
    | (apply es_pure hT; (iterate 4 exact rfl)) | (apply es_skip; (iterate 3 exact rfl)) | (apply es_skip0; (iterate 2 exact rfl))
    | (apply es_i64 hT; (iterate 4 exact rfl); (iterate 2 (first | omega | (dsimp only; omega))))
    | (apply aw_draw [] [] hmix; decide +kernel)
    | (apply es_load; (iterate 5 exact rfl); first | (apply ld_blk hT; exact rfl; exact rfl; (repeat (first | exact List.mem_cons_self | apply List.mem_cons_of_mem)); exact rfl; exact rfl) | (apply ld_all hT; exact rfl; exact rfl; (repeat (first | exact List.mem_cons_self | apply List.mem_cons_of_mem)); exact rfl))
    | (apply es_box; (iterate 5 exact rfl); intro _) | (apply es_alloc hT; (iterate 5 exact rfl); intro _)
    | (apply aw_condT; (iterate 2 exact rfl)) | (apply aw_condF; (iterate 2 exact rfl))
    | (apply es_case; exact rfl; all_goals intro hb; all_goals (fail_if_success (change true = true at hb)); all_goals (fail_if_success (change false = false at hb)); all_goals (try dsimp only at hb); all_goals (try simp only [hb]); all_goals (first | replace hb := of_decide_eq_true hb | replace hb := of_decide_eq_false hb | replace hb := bne_t hb | replace hb := bne_f hb | replace hb := eq_of_beq hb | replace hb := ne_of_beq_false hb | skip); all_goals (try (exfalso; omega)))
    | (apply aw_cond; exact rfl; all_goals intro hb; all_goals (try dsimp only at hb); all_goals (try simp only [hb]); all_goals (first | replace hb := of_decide_eq_true hb | replace hb := of_decide_eq_false hb | replace hb := bne_t hb | replace hb := bne_f hb | replace hb := eq_of_beq hb | replace hb := ne_of_beq_false hb | skip); all_goals (try (exfalso; omega))))
  all_goals (apply ret1; exact rfl; exact ⟨by (first | (simp_all [inB]; done) | (simp [inB]; omega)), dt_end⟩)
theorem firm_in (W : World) (n a b : Int) : QSpec Tryz.prog W 201 [.int .i64 n, .int .i64 a, .int .i64 b] [] (.bool (inB n a b)) := by
  refine QSpec.ofD (fun h' hs => ?_)
  refine spec_body Tryz.func201 rfl rfl Tryz.results201 Tryz.ntmps201 rfl rfl ?_
  repeat' (first
    | apply aw_seq | apply aw_region | apply aw_ret | apply aw_skip | apply aw_exit | apply aw_block | apply es_nil
    | (apply es_pure hT; (iterate 4 exact rfl)) | (apply es_skip; (iterate 3 exact rfl)) | (apply es_skip0; (iterate 2 exact rfl))
    | (apply es_i64 hT; (iterate 4 exact rfl); (iterate 2 (first | omega | (dsimp only; omega))))
    | (apply aw_draw [] [] hmix; decide +kernel)
    | (apply es_load; (iterate 5 exact rfl); first | (apply ld_blk hT; exact rfl; exact rfl; (repeat (first | exact List.mem_cons_self | apply List.mem_cons_of_mem)); exact rfl; exact rfl) | (apply ld_all hT; exact rfl; exact rfl; (repeat (first | exact List.mem_cons_self | apply List.mem_cons_of_mem)); exact rfl))
    | (apply es_box; (iterate 5 exact rfl); intro _) | (apply es_alloc hT; (iterate 5 exact rfl); intro _)
    | (apply aw_condT; (iterate 2 exact rfl)) | (apply aw_condF; (iterate 2 exact rfl))
    | (apply es_case; exact rfl; all_goals intro hb; all_goals (fail_if_success (change true = true at hb)); all_goals (fail_if_success (change false = false at hb)); all_goals (try dsimp only at hb); all_goals (try simp only [hb]); all_goals (first | replace hb := of_decide_eq_true hb | replace hb := of_decide_eq_false hb | replace hb := bne_t hb | replace hb := bne_f hb | replace hb := eq_of_beq hb | replace hb := ne_of_beq_false hb | skip); all_goals (try (exfalso; omega)))
    | (apply aw_cond; exact rfl; all_goals intro hb; all_goals (try dsimp only at hb); all_goals (try simp only [hb]); all_goals (first | replace hb := of_decide_eq_true hb | replace hb := of_decide_eq_false hb | replace hb := bne_t hb | replace hb := bne_f hb | replace hb := eq_of_beq hb | replace hb := ne_of_beq_false hb | skip); all_goals (try (exfalso; omega))))
  all_goals (apply ret1; exact rfl; exact ⟨by (first | (simp_all [inB]; done) | (simp [inB]; omega)), dt_end⟩)
theorem bond_Is (W : World) (b : BondR) : QSpec Tryz.prog W 203 [.agg b.enc.toArray] [] (.bool (isBond b)) := by
  refine QSpec.ofD (fun h' hs => ?_)
  refine spec_body Tryz.func203 rfl rfl Tryz.results203 Tryz.ntmps203 rfl rfl ?_
  repeat' (first
    | apply aw_seq | apply aw_region | apply aw_ret | apply aw_skip | apply aw_exit | apply aw_block | apply es_nil
    | (apply es_pure hT; (iterate 4 exact rfl)) | (apply es_skip; (iterate 3 exact rfl)) | (apply es_skip0; (iterate 2 exact rfl))
    | (apply es_i64 hT; (iterate 4 exact rfl); (iterate 2 (first | omega | (dsimp only; omega))))
    | (apply aw_draw [] [] hmix; decide +kernel)
    | (apply es_rem; (iterate 5 exact rfl); (have z1 := inB_t ‹inB b.lot 1 1000000 = true›; have z2 := inB_t ‹inB b.max b.min 1000000 = true›; have z3 := inB_t ‹inB b.min 1 1000000 = true›; omega); (have z1 := inB_t ‹inB b.lot 1 1000000 = true›; omega))
    | (apply es_i64 hT; (iterate 4 exact rfl); (iterate 2 (have z1 := inB_t ‹inB b.lot 1 1000000 = true›; have z2 := inB_t ‹inB b.max b.min 1000000 = true›; have z3 := inB_t ‹inB b.min 1 1000000 = true›; have z4 := Int.emod_nonneg b.max (show b.lot ≠ 0 by omega); have z5 := Int.emod_lt_of_pos b.max (show 0 < b.lot by omega); omega)))
    | (apply es_callQ (hs := ((bond_in W _ _ _).mono (by simp))); (iterate 7 exact rfl))
    | (apply es_load; (iterate 5 exact rfl); first | (apply ld_blk hT; exact rfl; exact rfl; (repeat (first | exact List.mem_cons_self | apply List.mem_cons_of_mem)); exact rfl; exact rfl) | (apply ld_all hT; exact rfl; exact rfl; (repeat (first | exact List.mem_cons_self | apply List.mem_cons_of_mem)); exact rfl))
    | (apply es_box; (iterate 5 exact rfl); intro _) | (apply es_alloc hT; (iterate 5 exact rfl); intro _)
    | (apply aw_condT; (iterate 2 exact rfl)) | (apply aw_condF; (iterate 2 exact rfl))
    | (apply es_case; exact rfl; all_goals intro hb; all_goals (fail_if_success (change true = true at hb)); all_goals (fail_if_success (change false = false at hb)); all_goals (try dsimp only at hb); all_goals (try simp only [hb]); all_goals (first | replace hb := of_decide_eq_true hb | replace hb := of_decide_eq_false hb | replace hb := bne_t hb | replace hb := bne_f hb | replace hb := eq_of_beq hb | replace hb := ne_of_beq_false hb | skip); all_goals (try (exfalso; omega)))
    | (apply aw_cond; exact rfl; all_goals intro hb; all_goals (try dsimp only at hb); all_goals (try simp only [hb]); all_goals (first | replace hb := of_decide_eq_true hb | replace hb := of_decide_eq_false hb | replace hb := bne_t hb | replace hb := bne_f hb | replace hb := eq_of_beq hb | replace hb := ne_of_beq_false hb | skip); all_goals (try (exfalso; omega))))
  all_goals first
    | (apply ret1; exact rfl; exact ⟨by simp_all [isBond], dt_skip dt_end⟩)
    | skip
theorem firm_Is1 (W : World) (b : BondR) : QSpec Tryz.prog W 202 [.agg b.enc.toArray] [] (.bool (!isBond b)) := by
  refine QSpec.ofD (fun h' hs => ?_)
  refine spec_body Tryz.func202 rfl rfl Tryz.results202 Tryz.ntmps202 rfl rfl ?_
  repeat' (first
    | apply aw_seq | apply aw_region | apply aw_ret | apply aw_skip | apply aw_exit | apply aw_block | apply es_nil
    | (apply es_pure hT; (iterate 4 exact rfl)) | (apply es_skip; (iterate 3 exact rfl)) | (apply es_skip0; (iterate 2 exact rfl))
    | (apply es_i64 hT; (iterate 4 exact rfl); (iterate 2 (first | omega | (dsimp only; omega))))
    | (apply aw_draw [] [] hmix; decide +kernel)
    | (apply es_callQ (hs := ((bond_Is W b).mono (by simp))); (iterate 7 exact rfl))
    | (apply es_load; (iterate 5 exact rfl); first | (apply ld_blk hT; exact rfl; exact rfl; (repeat (first | exact List.mem_cons_self | apply List.mem_cons_of_mem)); exact rfl; exact rfl) | (apply ld_all hT; exact rfl; exact rfl; (repeat (first | exact List.mem_cons_self | apply List.mem_cons_of_mem)); exact rfl))
    | (apply es_box; (iterate 5 exact rfl); intro _) | (apply es_alloc hT; (iterate 5 exact rfl); intro _)
    | (apply aw_condT; (iterate 2 exact rfl)) | (apply aw_condF; (iterate 2 exact rfl))
    | (apply es_case; exact rfl; all_goals intro hb; all_goals (fail_if_success (change true = true at hb)); all_goals (fail_if_success (change false = false at hb)); all_goals (try dsimp only at hb); all_goals (try simp only [hb]); all_goals (first | replace hb := of_decide_eq_true hb | replace hb := of_decide_eq_false hb | replace hb := bne_t hb | replace hb := bne_f hb | replace hb := eq_of_beq hb | replace hb := ne_of_beq_false hb | skip); all_goals (try (exfalso; omega)))
    | (apply aw_cond; exact rfl; all_goals intro hb; all_goals (try dsimp only at hb); all_goals (try simp only [hb]); all_goals (first | replace hb := of_decide_eq_true hb | replace hb := of_decide_eq_false hb | replace hb := bne_t hb | replace hb := bne_f hb | replace hb := eq_of_beq hb | replace hb := ne_of_beq_false hb | skip); all_goals (try (exfalso; omega))))
  all_goals (apply ret1; exact rfl; exact ⟨rfl, by (repeat (first | exact dt_end | (apply dt_cons; · (repeat (first | exact sel0 | apply selS))) | apply dt_skip))⟩)
theorem firm_dealers (W : World) (h : List Chunk) (A : Option Addr) (c : Nat) (l : List PartyR) (hr : Reads W h A l.length 3 (l.flatMap PartyR.enc)) (hb : l.length ≤ 8) :
    QSpec Tryz.prog W 204 [.slice A l.length c] h (.int .u64 (maskTo l l.length)) := by
  refine QSpec.ofD (fun h' hs => ?_)
  have hr' := hr.mono hs
  refine spec_body Tryz.func204 rfl rfl Tryz.results204 Tryz.ntmps204 rfl rfl ?_
  refine aw_reads hr' rfl (fun hA => ?_)
  repeat' (first
    | apply aw_seq | apply aw_region | apply aw_ret | apply aw_skip | apply aw_exit | apply aw_block | apply es_nil
    | (apply es_pure hT; (iterate 4 exact rfl)) | (apply es_skip; (iterate 3 exact rfl)) | (apply es_skip0; (iterate 2 exact rfl))
    | (apply es_i64 hT; (iterate 4 exact rfl); (iterate 2 (first | omega | (dsimp only; omega))))
    | (apply aw_draw [] [] hmix; decide +kernel)
    | (apply es_load; (iterate 5 exact rfl); first | (apply ld_blk hT; exact rfl; exact rfl; (repeat (first | exact List.mem_cons_self | apply List.mem_cons_of_mem)); exact rfl; exact rfl) | (apply ld_all hT; exact rfl; exact rfl; (repeat (first | exact List.mem_cons_self | apply List.mem_cons_of_mem)); exact rfl))
    | (apply es_box; (iterate 5 exact rfl); intro _) | (apply es_alloc hT; (iterate 5 exact rfl); intro _)
    | (apply aw_condT; (iterate 2 exact rfl)) | (apply aw_condF; (iterate 2 exact rfl))
    | (apply es_case; exact rfl; all_goals intro hb; all_goals (fail_if_success (change true = true at hb)); all_goals (fail_if_success (change false = false at hb)); all_goals (try dsimp only at hb); all_goals (try simp only [hb]); all_goals (first | replace hb := of_decide_eq_true hb | replace hb := of_decide_eq_false hb | replace hb := bne_t hb | replace hb := bne_f hb | replace hb := eq_of_beq hb | replace hb := ne_of_beq_false hb | skip); all_goals (try (exfalso; omega)))
    | (apply aw_cond; exact rfl; all_goals intro hb; all_goals (try dsimp only at hb); all_goals (try simp only [hb]); all_goals (first | replace hb := of_decide_eq_true hb | replace hb := of_decide_eq_false hb | replace hb := bne_t hb | replace hb := bne_f hb | replace hb := eq_of_beq hb | replace hb := ne_of_beq_false hb | skip); all_goals (try (exfalso; omega))))
  refine aw_loopD (α := Nat) (E := fun k => [(3, .int .u64 (maskTo l k)), (6, .slice A l.length c), (7, .int .i64 l.length), (8, .int .i64 k)]) (H := fun _ => h') (μ := fun k => l.length - k)
    (S := fun k => k ≤ l.length) 0 (Nat.zero_le _) ⟨rfl, rfl, rfl, rfl, trivial⟩ (by (repeat (first | exact dt_end | (apply dt_cons; · (repeat (first | exact sel0 | apply selS))) | apply dt_skip))) ?_
  intro k hk
  by_cases hlt : k < l.length
  · obtain ⟨x, hx⟩ : ∃ x, l[k]? = some x := ⟨l[k]'(by omega), List.getElem?_eq_getElem (by omega)⟩
    have hx2 : l[(k : Int).toNat]? = some x := by simpa using hx
    have hA' := hA (by omega)
    have hd1 : decide ((k : Int) < (l.length : Int)) = true := by simp; omega
    have hst := maskTo_step hx
    have hor := or_pow (maskTo_lt l k) (show k < 64 by omega)
    repeat' (first
      | apply aw_seq | apply aw_region | apply aw_ret | apply aw_skip | apply aw_exit | apply aw_block | apply es_nil
      | (apply es_pure hT; (iterate 4 exact rfl)) | (apply es_skip; (iterate 3 exact rfl)) | (apply es_skip0; (iterate 2 exact rfl))
      | (apply es_i64 hT; (iterate 4 exact rfl); (iterate 2 (first | omega | (dsimp only; omega))))
      | (apply aw_draw [] [] hmix; decide +kernel)
      | (apply es_idx hT; (iterate 8 exact rfl); (iterate 2 omega); exact hA')
      | (apply es_load; (iterate 5 exact rfl); exact ld_elem hT rfl rfl (hr'.mono (by intro c hc; first | exact hc | exact List.mem_cons_of_mem _ hc)) PartyR.enc_len rfl hx2 rfl)
      | (apply es_store hT; (iterate 6 exact rfl); (repeat (first | exact sel0 | apply selS)); (iterate 3 exact rfl); exact Nat.le_of_ble_eq_true rfl)
      | (apply es_shl; (iterate 5 exact rfl); omega)
      | (apply es_bits; (iterate 6 exact rfl))
      | (apply es_load; (iterate 5 exact rfl); first | (apply ld_blk hT; exact rfl; exact rfl; (repeat (first | exact List.mem_cons_self | apply List.mem_cons_of_mem)); exact rfl; exact rfl) | (apply ld_all hT; exact rfl; exact rfl; (repeat (first | exact List.mem_cons_self | apply List.mem_cons_of_mem)); exact rfl))
      | (apply es_box; (iterate 5 exact rfl); intro _) | (apply es_alloc hT; (iterate 5 exact rfl); intro _)
      | (apply aw_condT; (iterate 2 exact rfl)) | (apply aw_condF; (iterate 2 exact rfl))
      | (apply es_case; exact rfl; all_goals intro hb; all_goals (fail_if_success (change true = true at hb)); all_goals (fail_if_success (change false = false at hb)); all_goals (try dsimp only at hb); all_goals (try simp only [hb]); all_goals (first | replace hb := of_decide_eq_true hb | replace hb := of_decide_eq_false hb | replace hb := bne_t hb | replace hb := bne_f hb | replace hb := eq_of_beq hb | replace hb := ne_of_beq_false hb | skip); all_goals (try (exfalso; omega)))
      | (apply aw_cond; exact rfl; all_goals intro hb; all_goals (try dsimp only at hb); all_goals (try simp only [hb]); all_goals (first | replace hb := of_decide_eq_true hb | replace hb := of_decide_eq_false hb | replace hb := bne_t hb | replace hb := bne_f hb | replace hb := eq_of_beq hb | replace hb := ne_of_beq_false hb | skip); all_goals (try (exfalso; omega))))
    all_goals first
      | (exfalso; omega)
      | exact loopq_end (k + 1) (by (try dsimp only); omega) (by (try dsimp only); omega) ⟨by (try dsimp only); rw [hst, if_pos ‹_›, ← hor]; rfl, rfl, rfl, rfl, trivial⟩ (by (repeat (first | exact dt_end | (apply dt_cons; · (repeat (first | exact sel0 | apply selS))) | apply dt_skip)))
      | exact loopq_end (k + 1) (by (try dsimp only); omega) (by (try dsimp only); omega) ⟨by (try dsimp only); rw [hst, if_neg ‹_›]; rfl, rfl, rfl, rfl, trivial⟩ (by (repeat (first | exact dt_end | (apply dt_cons; · (repeat (first | exact sel0 | apply selS))) | apply dt_skip)))
      | skip
  · obtain rfl : k = l.length := by omega
    have hd1 : decide ((l.length : Int) < (l.length : Int)) = false := by simp
    repeat' (first
      | apply aw_seq | apply aw_region | apply aw_ret | apply aw_skip | apply aw_exit | apply aw_block | apply es_nil
      | (apply es_pure hT; (iterate 4 exact rfl)) | (apply es_skip; (iterate 3 exact rfl)) | (apply es_skip0; (iterate 2 exact rfl))
      | (apply es_i64 hT; (iterate 4 exact rfl); (iterate 2 (first | omega | (dsimp only; omega))))
      | (apply aw_draw [] [] hmix; decide +kernel)
      | (apply es_load; (iterate 5 exact rfl); first | (apply ld_blk hT; exact rfl; exact rfl; (repeat (first | exact List.mem_cons_self | apply List.mem_cons_of_mem)); exact rfl; exact rfl) | (apply ld_all hT; exact rfl; exact rfl; (repeat (first | exact List.mem_cons_self | apply List.mem_cons_of_mem)); exact rfl))
      | (apply es_box; (iterate 5 exact rfl); intro _) | (apply es_alloc hT; (iterate 5 exact rfl); intro _)
      | (apply aw_condT; (iterate 2 exact rfl)) | (apply aw_condF; (iterate 2 exact rfl))
      | (apply es_case; exact rfl; all_goals intro hb; all_goals (fail_if_success (change true = true at hb)); all_goals (fail_if_success (change false = false at hb)); all_goals (try dsimp only at hb); all_goals (try simp only [hb]); all_goals (first | replace hb := of_decide_eq_true hb | replace hb := of_decide_eq_false hb | replace hb := bne_t hb | replace hb := bne_f hb | replace hb := eq_of_beq hb | replace hb := ne_of_beq_false hb | skip); all_goals (try (exfalso; omega)))
      | (apply aw_cond; exact rfl; all_goals intro hb; all_goals (try dsimp only at hb); all_goals (try simp only [hb]); all_goals (first | replace hb := of_decide_eq_true hb | replace hb := of_decide_eq_false hb | replace hb := bne_t hb | replace hb := bne_f hb | replace hb := eq_of_beq hb | replace hb := ne_of_beq_false hb | skip); all_goals (try (exfalso; omega))))
    all_goals first
      | (exfalso; omega)
      | (apply ret1; exact rfl; exact ⟨rfl, by (repeat (first | exact dt_end | (apply dt_cons; · (repeat (first | exact sel0 | apply selS))) | apply dt_skip))⟩)
theorem firm_isParty (W : World) (p : PartyR) (all : Int) : QSpec Tryz.prog W 206 [.agg p.enc.toArray, .int .u64 all] [] (.bool (isParty p all)) := by
  refine QSpec.ofD (fun h' hs => ?_)
  refine spec_body Tryz.func206 rfl rfl Tryz.results206 Tryz.ntmps206 rfl rfl ?_
  repeat' (first
    | apply aw_seq | apply aw_region | apply aw_ret | apply aw_skip | apply aw_exit | apply aw_block | apply es_nil
    | (apply es_pure hT; (iterate 4 exact rfl)) | (apply es_skip; (iterate 3 exact rfl)) | (apply es_skip0; (iterate 2 exact rfl))
    | (apply es_i64 hT; (iterate 4 exact rfl); (iterate 2 (first | omega | (dsimp only; omega))))
    | (apply aw_draw [] [] hmix; decide +kernel)
    | (apply es_bits; (iterate 6 exact rfl))
    | (apply es_callQ (hs := ((firm_in W _ _ _).mono (by simp))); (iterate 7 exact rfl))
    | (apply es_load; (iterate 5 exact rfl); first | (apply ld_blk hT; exact rfl; exact rfl; (repeat (first | exact List.mem_cons_self | apply List.mem_cons_of_mem)); exact rfl; exact rfl) | (apply ld_all hT; exact rfl; exact rfl; (repeat (first | exact List.mem_cons_self | apply List.mem_cons_of_mem)); exact rfl))
    | (apply es_box; (iterate 5 exact rfl); intro _) | (apply es_alloc hT; (iterate 5 exact rfl); intro _)
    | (apply aw_condT; (iterate 2 exact rfl)) | (apply aw_condF; (iterate 2 exact rfl))
    | (apply es_case; exact rfl; all_goals intro hb; all_goals (fail_if_success (change true = true at hb)); all_goals (fail_if_success (change false = false at hb)); all_goals (try dsimp only at hb); all_goals (try simp only [hb]); all_goals (first | replace hb := of_decide_eq_true hb | replace hb := of_decide_eq_false hb | replace hb := bne_t hb | replace hb := bne_f hb | replace hb := eq_of_beq hb | replace hb := ne_of_beq_false hb | skip); all_goals (try (exfalso; omega)))
    | (apply aw_cond; exact rfl; all_goals intro hb; all_goals (try dsimp only at hb); all_goals (try simp only [hb]); all_goals (first | replace hb := of_decide_eq_true hb | replace hb := of_decide_eq_false hb | replace hb := bne_t hb | replace hb := bne_f hb | replace hb := eq_of_beq hb | replace hb := ne_of_beq_false hb | skip); all_goals (try (exfalso; omega))))
  all_goals first
    | (apply ret1; exact rfl; exact ⟨by simp_all [isParty], by (repeat (first | exact dt_end | (apply dt_cons; · (repeat (first | exact sel0 | apply selS))) | apply dt_skip))⟩)
    | skip
theorem firm_Is2 (W : World) (p : PartyR) (all : Int) (g : Nat) : QSpec Tryz.prog W 205 [.agg p.enc.toArray, .pointer (some ⟨g, 0, none⟩)] [.blk g 104 [.int .u64 all]] (.bool (!isParty p all)) := by
  refine QSpec.ofD (fun h' hs => ?_)
  have m0 := hs _ mem0
  refine spec_body Tryz.func205 rfl rfl Tryz.results205 Tryz.ntmps205 rfl rfl ?_
  repeat' (first
    | apply aw_seq | apply aw_region | apply aw_ret | apply aw_skip | apply aw_exit | apply aw_block | apply es_nil
    | (apply es_pure hT; (iterate 4 exact rfl)) | (apply es_skip; (iterate 3 exact rfl)) | (apply es_skip0; (iterate 2 exact rfl))
    | (apply es_i64 hT; (iterate 4 exact rfl); (iterate 2 (first | omega | (dsimp only; omega))))
    | (apply aw_draw [] [] hmix; decide +kernel)
    | (apply es_callQ (hs := ((firm_isParty W p all).mono (by simp))); (iterate 7 exact rfl))
    | (apply es_load; (iterate 5 exact rfl); first | (apply ld_blk hT; exact rfl; exact rfl; (repeat (first | exact List.mem_cons_self | exact m0 | apply List.mem_cons_of_mem)); exact rfl; exact rfl) | (apply ld_all hT; exact rfl; exact rfl; (repeat (first | exact List.mem_cons_self | exact m0 | apply List.mem_cons_of_mem)); exact rfl))
    | (apply es_box; (iterate 5 exact rfl); intro _) | (apply es_alloc hT; (iterate 5 exact rfl); intro _)
    | (apply aw_condT; (iterate 2 exact rfl)) | (apply aw_condF; (iterate 2 exact rfl))
    | (apply es_case; exact rfl; all_goals intro hb; all_goals (fail_if_success (change true = true at hb)); all_goals (fail_if_success (change false = false at hb)); all_goals (try dsimp only at hb); all_goals (try simp only [hb]); all_goals (first | replace hb := of_decide_eq_true hb | replace hb := of_decide_eq_false hb | replace hb := bne_t hb | replace hb := bne_f hb | replace hb := eq_of_beq hb | replace hb := ne_of_beq_false hb | skip); all_goals (try (exfalso; omega)))
    | (apply aw_cond; exact rfl; all_goals intro hb; all_goals (try dsimp only at hb); all_goals (try simp only [hb]); all_goals (first | replace hb := of_decide_eq_true hb | replace hb := of_decide_eq_false hb | replace hb := bne_t hb | replace hb := bne_f hb | replace hb := eq_of_beq hb | replace hb := ne_of_beq_false hb | skip); all_goals (try (exfalso; omega))))
  all_goals (apply ret1; exact rfl; exact ⟨rfl, by (repeat (first | exact dt_end | (apply dt_cons; · (repeat (first | exact sel0 | apply selS))) | apply dt_skip))⟩)
end Go.Proofs.YtjcnaeengplcbaaGreat

