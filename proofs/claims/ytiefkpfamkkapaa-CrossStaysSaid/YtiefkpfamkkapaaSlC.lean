/- The operations of a region, one rule for each kind. Over any program; no condition of its own. -/
import Derived.Test.YtiefkpfamkkapaaSlB
import Derived.IntWalk
set_option linter.unusedSimpArgs false
set_option linter.unusedVariables false
namespace Go.Sl
open Go Go.RowKit

/-- what is known of a type -/
structure TI where
  desc : TypeDesc
  size : Nat
  bytes : Nat
  zero : Value

abbrev Tab := List (Nat × TI)

def TGood (P : Program) (t : Nat) (ti : TI) : Prop :=
  P.underlying t = some ti.desc ∧ ∃ i, P.info? t = some i ∧ i.size = ti.size ∧ i.bytes = ti.bytes ∧ i.zero = some ti.zero

def TabOK (P : Program) (T : Tab) : Prop := ∀ t ti, T.lookup t = some ti → TGood P t ti

theorem tab_nil {P : Program} : TabOK P [] := fun t ti h => by simp at h
theorem tab_cons {P : Program} {T : Tab} {t : Nat} {ti : TI} (h : TGood P t ti) (hT : TabOK P T) : TabOK P ((t, ti) :: T) := fun u ui hu => by
  rw [List.lookup_cons] at hu
  split at hu
  · rename_i he
    obtain rfl : u = t := by simpa using he
    injection hu with hu
    subst hu
    exact h
  · exact hT u ui hu
theorem tgood {P : Program} {t : Nat} {d : TypeDesc} {s b : Nat} {z : Value} (h : P.underlying t = some d) (hi : (P.info? t).map (fun i => (i.size, i.bytes, i.zero)) = some (s, b, some z)) : TGood P t ⟨d, s, b, z⟩ := by
  cases hq : P.info? t with
  | none => simp [hq] at hi
  | some i =>
    simp only [hq, Option.map_some, Option.some.injEq, Prod.mk.injEq] at hi
    exact ⟨h, i, hq, hi.1, hi.2.1, hi.2.2⟩

abbrev Env := List (Nat × Value)

structure Agree (N : Nat) (env : Env) (a : Act) : Prop where
  size : a.tmps.size = N
  defers : a.defers = []
  at_ : ∀ t v, env.lookup t = some v → a.tmps[t]? = some v

def Env.put (env : Env) (d : Option Tmp) (v : Value) : Env := match d with
  | some d => (d, v) :: env
  | none => env

def dstOK (N : Nat) (d : Option Tmp) : Bool := match d with
  | some d => Nat.blt d N
  | none => true

theorem Agree.put {N : Nat} {env : Env} {a : Act} {d : Option Tmp} {v : Value} (h : Agree N env a) (hd : dstOK N d = true) : Agree N (Env.put env d v) (a.put d v) := by
  cases d with
  | none => exact h
  | some d =>
    have hlt : d < a.tmps.size := by rw [h.size]; simpa [dstOK] using hd
    refine ⟨by simpa [Act.put] using h.size, by simpa [Act.put] using h.defers, fun t u hu => ?_⟩
    simp only [Env.put] at hu
    rw [List.lookup_cons] at hu
    simp only [Act.put]
    split at hu
    · rename_i he
      obtain rfl : t = d := by simpa using he
      injection hu with hu
      subst hu
      simp [hlt]
    · rename_i he
      have hne : d ≠ t := fun e => by subst e; simp at he
      rw [Array.getElem?_setIfInBounds_ne hne]
      exact h.at_ t u hu

def evalE (env : Env) : Operand → Option Value
  | .tmp t => env.lookup t
  | .const v => some v
  | .global g => some (.pointer (some ⟨g, 0, none⟩))
  | .func f => some (.func (.func f) #[] #[])

theorem Agree.eval {N : Nat} {env : Env} {a : Act} (h : Agree N env a) {x : Operand} {v : Value} (hx : evalE env x = some v) : a.eval x = v := by
  cases x with
  | tmp t => have := h.at_ t v hx; simp [Act.eval, this]
  | const u => simpa [evalE, Act.eval] using hx
  | global g => simpa [evalE, Act.eval] using hx
  | func f => simpa [evalE, Act.eval] using hx

def evalEs (env : Env) : List Operand → Option (List Value)
  | [] => some []
  | x :: xs => match evalE env x, evalEs env xs with
    | some v, some vs => some (v :: vs)
    | _, _ => none

theorem Agree.evals {N : Nat} {env : Env} {a : Act} (h : Agree N env a) : ∀ {xs : List Operand} {vs : List Value}, evalEs env xs = some vs → xs.map a.eval = vs
  | [], vs, hx => by simp [evalEs] at hx; simp [hx]
  | x :: xs, vs, hx => by
    unfold evalEs at hx
    split at hx
    · rename_i v us h1 h2
      injection hx with hx
      subst hx
      simp [h.eval h1, h.evals h2]
    · cases hx

def isAggD : TypeDesc → Bool
  | .struct _ | .array _ _ => true
  | _ => false

def partV (T : Tab) (t : TypeId) (cs : List Value) (off : Nat) : Option Value :=
  match T.lookup t with
  | none => none
  | some ti => if isAggD ti.desc then some (.agg ((cs.drop off).take ti.size).toArray) else cs[off]?

def cmpV (op : BinOp) (x y : Int) : Option Value :=
  match op with
  | .eql => some (.bool (x == y))
  | .neq => some (.bool (x != y))
  | .lss => some (.bool (decide (x < y)))
  | .leq => some (.bool (decide (x ≤ y)))
  | .gtr => some (.bool (decide (x > y)))
  | .geq => some (.bool (decide (x ≥ y)))
  | _ => none

def fieldOff (T : Tab) (t : TypeId) (i : Nat) : Option (Nat × TypeId) :=
  match T.lookup t with
  | some ⟨.struct fs, _, _, _⟩ => (fs.toList[i]?).bind fun f => match T.lookup f.type with
    | some ti => if ti.size = 0 then none else some (f.offset, f.type)
    | none => none
  | _ => none

/-- what an operation yields that looks at its operands alone -/
def evalPure (T : Tab) (env : Env) : Op → Option Value
  | .move x => evalE env x
  | .assign x => evalE env x
  | .pick c x y => match evalE env c with
    | some (.bool true) => evalE env x
    | some (.bool false) => evalE env y
    | _ => none
  | .nilCheck x => match evalE env x with
    | some (.pointer (some ad)) => some (.pointer (some ad))
    | some (.func (.func f) a b) => some (.func (.func f) a b)
    | _ => none
  | .fieldAddr t x i => match fieldOff T t i, evalE env x with
    | some (off, _), some (.pointer (some ad)) => some (.pointer (some (ad.add off)))
    | _, _ => none
  | .field t x i => match fieldOff T t i, evalE env x with
    | some (off, ft), some (.agg cs) => partV T ft cs.toList off
    | _, _ => none
  | .extract x i => match evalE env x with
    | some (.tuple vs) => vs.toList[i]?
    | _ => none
  | .makeFunc fn first captured => match evalEs env first.toList, evalEs env captured.toList with
    | some a, some b => some (.func fn a.toArray b.toArray)
    | _, _ => none
  | .unOp .not _ x => match evalE env x with
    | some (.bool b) => some (.bool (!b))
    | _ => none
  | .binOp op t x y _ => match evalE env x, evalE env y with
    | some (.int k a), some (.int k' b) => if k = k' then (match op with
        | .add | .sub | .mul | .quo | .rem | .and | .or | .xor | .andNot | .shl | .shr => none
        | _ => cmpV op a b) else none
    | some (.bool a), some (.bool b) => (match T.lookup t with
      | some ⟨.bool, _, _, _⟩ => (match op with
        | .eql => some (.bool (a == b))
        | .neq => some (.bool (!(a == b)))
        | _ => none)
      | _ => none)
    | some (.pointer a), some (.pointer none) => (match T.lookup t with
      | some ⟨.pointer _, _, _, _⟩ => (match op with
        | .eql => some (.bool a.isNone)
        | .neq => some (.bool (!a.isNone))
        | _ => none)
      | _ => none)
    | some (.slice a _ _), some (.slice none _ _) => (match T.lookup t with
      | some ⟨.slice _, _, _, _⟩ => (match op with
        | .eql => some (.bool a.isNone)
        | .neq => some (.bool (!a.isNone))
        | _ => none)
      | _ => none)
    | _, _ => none
  | .call { callee := .builtin .len, args := ⟨[x]⟩, argTypes := ⟨[t]⟩ } => match T.lookup t, evalE env x with
    | some ⟨.slice _, _, _, _⟩, some (.slice _ n _) => some (.int .i64 n)
    | _, _ => none
  | _ => none

/-- what an operation on whole numbers yields ahead of its wrap -/
def evalArith (T : Tab) (env : Env) : Op → Option (IntKind × Int)
  | .binOp op _ x y _ => match evalE env x, evalE env y with
    | some (.int k a), some (.int k' b) => if k = k' then (match op with
        | .add => some (k, a + b)
        | .sub => some (k, a - b)
        | .mul => some (k, a * b)
        | _ => none) else none
    | _, _ => none
  | .unOp .neg _ x => match evalE env x with
    | some (.int k a) => some (k, 0 - a)
    | _ => none
  | .convert s d x => match T.lookup s, T.lookup d, evalE env x with
    | some ⟨.int _, _, _, _⟩, some ⟨.int k, _, _, _⟩, some (.int _ n) => some (k, n)
    | _, _, _ => none
  | _ => none

section
variable {P : Program} {W : World} {T : Tab} {N : Nat} {env : Env} {a : Act}

theorem TGood.und {t : Nat} {ti : TI} (h : TGood P t ti) : ∀ w : World, (underlying t).run P w = .ok ti.desc w := fun w => run_underlying h.1 w
theorem TGood.sz {t : Nat} {ti : TI} (h : TGood P t ti) : ∀ w : World, (Go.sizeOf t).run P w = .ok ti.size w := fun w => by
  obtain ⟨_, i, hi, h1, _⟩ := h
  simp [Go.sizeOf, typeInfo, hi, h1]
theorem TGood.zv {t : Nat} {ti : TI} (h : TGood P t ti) : ∀ w : World, (zeroValue t).run P w = .ok ti.zero w := fun w => by
  obtain ⟨_, i, hi, h1, _, h3⟩ := h
  simp [zeroValue, typeInfo, hi, h3]
theorem TGood.ag {t : Nat} {ti : TI} (h : TGood P t ti) : ∀ w : World, (isAgg t).run P w = .ok (isAggD ti.desc) w := fun w => by
  have := h.und w
  unfold isAgg
  simp only [Sem.run_bind, this, Result.andThen_ok]
  cases ti.desc <;> rfl

theorem part_run (hT : TabOK P T) {t : TypeId} {cs : Array Value} {off : Nat} {v : Value} (h : partV T t cs.toList off = some v) (w : World) : (part t cs off).run P w = .ok v w := by
  unfold partV at h
  split at h
  · cases h
  · rename_i ti ht
    have g := hT _ _ ht
    unfold part
    simp only [Sem.run_bind, g.ag, Result.andThen_ok]
    split at h
    · rename_i ha
      injection h with h
      simp only [ha, if_true, Sem.run_bind, g.sz, Result.andThen_ok, Sem.run_pure]
      rw [← h]
      congr 2
      apply Array.ext'
      simp [Array.toList_extract]
    · rename_i ha
      simp only [ha]
      have : cs[off]? = some v := by simpa using h
      simp [this]

theorem fieldOff_spec {t : TypeId} {i : Nat} {off : Nat} {ft : TypeId} (hT : TabOK P T) (h : fieldOff T t i = some (off, ft)) :
    ∃ fs f, P.underlying t = some (.struct fs) ∧ fs[i]? = some f ∧ f.offset = off ∧ f.type = ft ∧ ∃ ti, TGood P ft ti ∧ ti.size ≠ 0 := by
  unfold fieldOff at h
  split at h
  · rename_i fs s b z hl
    have g := (hT _ _ hl).1
    cases hf : fs.toList[i]? with
    | none => simp [hf] at h
    | some f =>
      simp only [hf, Option.bind_some] at h
      split at h
      · rename_i ti hti
        split at h
        · cases h
        · rename_i hz
          injection h with h
          injection h with h1 h2
          exact ⟨fs, f, g, by simpa using hf, h1, h2, ti, by rw [← h2]; exact hT _ _ hti, hz⟩
      · cases h
  · cases h

theorem equal_bool {t : TypeId} (g : P.underlying t = some .bool) (x y : Bool) (w : World) : (Op.equal t (.bool x) (.bool y)).run P w = .ok (x == y) w := by
  show (Op.equalIn (9999 + 1) t (.bool x) (.bool y)).run P w = _
  rw [Op.equalIn]
  simp only [Sem.run_bind, run_underlying g, Result.andThen_ok, Sem.run_pure]
theorem equal_ptr {t e : TypeId} (g : P.underlying t = some (.pointer e)) (x : Option Addr) (w : World) : (Op.equal t (.pointer x) (.pointer none)).run P w = .ok x.isNone w := by
  show (Op.equalIn (9999 + 1) t (.pointer x) (.pointer none)).run P w = _
  rw [Op.equalIn]
  simp only [Sem.run_bind, run_underlying g, Result.andThen_ok]
  cases x <;> rfl
theorem equal_slice {t e : TypeId} (g : P.underlying t = some (.slice e)) (x : Option Addr) (n c n' c' : Nat) (w : World) : (Op.equal t (.slice x n c) (.slice none n' c')).run P w = .ok x.isNone w := by
  show (Op.equalIn (9999 + 1) t (.slice x n c) (.slice none n' c')).run P w = _
  rw [Op.equalIn]
  simp only [Sem.run_bind, run_underlying g, Result.andThen_ok]
  cases x <;> rfl

theorem eql_of {dst ty pos af g} {t : TypeId} {x y : Operand} {yt : TypeId} {u v : Value} {b : Bool} {w : World} (hx : a.eval x = u) (hy : a.eval y = v)
    (hg : ∀ w, (eqGuard .eql t x y u v).run P w = .ok () w) (hb : binOp .eql t u v = (do pure (.bool (← Op.equal t u v)))) (he : (Op.equal t u v).run P w = .ok b w) :
    (execOp a.eval ⟨dst, .binOp .eql t x y yt, ty, pos, af, g⟩).run P w = .ok (.value (.bool b)) w := by
  simp only [execOp, hx, hy, Sem.run_bind, hg, Result.andThen_ok, hb, he, Sem.run_pure]
theorem neq_of {dst ty pos af g} {t : TypeId} {x y : Operand} {yt : TypeId} {u v : Value} {b : Bool} {w : World} (hx : a.eval x = u) (hy : a.eval y = v)
    (hg : ∀ w, (eqGuard .neq t x y u v).run P w = .ok () w) (hb : binOp .neq t u v = (do pure (.bool (!(← Op.equal t u v))))) (he : (Op.equal t u v).run P w = .ok b w) :
    (execOp a.eval ⟨dst, .binOp .neq t x y yt, ty, pos, af, g⟩).run P w = .ok (.value (.bool (!b))) w := by
  simp only [execOp, hx, hy, Sem.run_bind, hg, Result.andThen_ok, hb, he, Sem.run_pure]

set_option linter.unusedSimpArgs false in
theorem evalPure_run (hT : TabOK P T) (ha : Agree N env a) {o : Oper} {v : Value} (h : evalPure T env o.op = some v) (w : World) :
    (execOp a.eval o).run P w = .ok (.value v) w := by
  obtain ⟨dst, op, ty, pos, af, g⟩ := o
  simp only at h
  unfold evalPure at h
  split at h
  · simp [execOp, ha.eval h]
  · simp [execOp, ha.eval h]
  · split at h
    · rename_i h1; simp [execOp, ha.eval h1, ha.eval h, asBool]
    · rename_i h1; simp [execOp, ha.eval h1, ha.eval h, asBool]
    · cases h
  · split at h
    · rename_i h1; injection h with h; subst h; simp [execOp, ha.eval h1]
    · rename_i h1; injection h with h; subst h; simp [execOp, ha.eval h1]
    · cases h
  · split at h
    · rename_i off ft ad h1 h2
      injection h with h
      obtain ⟨fs, f, hu, hf, ho, hft, ti, hg, hz⟩ := fieldOff_spec hT h1
      subst ho hft
      simp [execOp, ha.eval h2, Instr.fieldAt, run_underlying hu, hf, Instr.sureAddr, fieldPlace, hg.sz, hz, h]
    · cases h
  · split at h
    · rename_i off ft cs h1 h2
      obtain ⟨fs, f, hu, hf, ho, hft, ti, hg, hz⟩ := fieldOff_spec hT h1
      subst ho hft
      have hp := part_run hT h w
      simp [execOp, ha.eval h2, Instr.field, run_underlying hu, hf, asAgg, hp]
    · cases h
  · split at h
    · rename_i vs h1
      have : vs[‹Nat›]? = some v := by simpa using h
      simp [execOp, ha.eval h1, Instr.extract, this]
    · cases h
  · split at h
    · rename_i fs cs h1 h2
      injection h with h
      have e1 := ha.evals h1
      have e2 := ha.evals h2
      have e3 : ∀ l : Array Operand, Array.map a.eval l = (List.map a.eval l.toList).toArray := fun l => by apply Array.ext'; simp
      simp only [execOp, Instr.makeFunc, ← h, ← e1, ← e2, ← e3]
      simp
    · cases h
  · split at h
    · rename_i h1; injection h with h; simp [execOp, ha.eval h1, Op.unary, h]
    · cases h
  · split at h
    · rename_i k m k' n h1 h2
      split at h
      · rename_i hk
        subst hk
        split at h <;> first
          | (cases h; done)
          | (unfold cmpV at h
             split at h <;> first
               | (cases h; done)
               | (injection h with h; simp [execOp, ha.eval h1, ha.eval h2, eqGuard, binOp, Op.intCmp, ← h]))
      · cases h
    · rename_i m n h1 h2
      split at h
      · rename_i hl
        have g := (hT _ _ hl).1
        split at h
        · injection h with h; subst h; exact eql_of (ha.eval h1) (ha.eval h2) (fun _ => by rfl) rfl (equal_bool g _ _ w)
        · injection h with h; subst h; exact neq_of (ha.eval h1) (ha.eval h2) (fun _ => by rfl) rfl (equal_bool g _ _ w)
        · cases h
      · cases h
    · rename_i ad h1 h2
      split at h
      · rename_i hl
        have g := (hT _ _ hl).1
        split at h
        · injection h with h; subst h; exact eql_of (ha.eval h1) (ha.eval h2) (fun _ => by rfl) rfl (equal_ptr g _ w)
        · injection h with h; subst h; exact neq_of (ha.eval h1) (ha.eval h2) (fun _ => by rfl) rfl (equal_ptr g _ w)
        · cases h
      · cases h
    · rename_i ad _ _ _ _ h1 h2
      split at h
      · rename_i hl
        have g := (hT _ _ hl).1
        split at h
        · injection h with h; subst h; exact eql_of (ha.eval h1) (ha.eval h2) (fun _ => by rfl) rfl (equal_slice g _ _ _ _ _ w)
        · injection h with h; subst h; exact neq_of (ha.eval h1) (ha.eval h2) (fun _ => by rfl) rfl (equal_slice g _ _ _ _ _ w)
        · cases h
      · cases h
    · cases h
  · split at h
    · rename_i h1 h2
      have g := (hT _ _ h1).1
      injection h with h
      simp [execOp, resolve, invoke, builtin, Builtin.len_, ha.eval h2, run_underlying g, goInt, ← h]
    · cases h
  · cases h

set_option linter.unusedSimpArgs false in
theorem evalArith_run (hT : TabOK P T) (ha : Agree N env a) {o : Oper} {k : IntKind} {e : Int} (h : evalArith T env o.op = some (k, e)) (w : World) :
    (execOp a.eval o).run P w = .ok (.value (.int k (k.wrap e))) w := by
  obtain ⟨dst, op, ty, pos, af, g⟩ := o
  simp only at h
  unfold evalArith at h
  split at h
  · split at h
    · rename_i k1 m k' n h1 h2
      split at h
      · rename_i hk
        subst hk
        split at h <;> first
          | (cases h; done)
          | (injection h with h; injection h with h3 h4; subst h3 h4; simp [execOp, ha.eval h1, ha.eval h2, eqGuard, binOp, Op.intArith])
      · cases h
    · cases h
  · split at h
    · rename_i h1
      injection h with h; injection h with h3 h4; subst h3 h4
      simp [execOp, ha.eval h1, Op.unary, Op.intArith]
    · cases h
  · split at h
    · rename_i h0 h1 h2
      injection h with h; injection h with h3 h4; subst h3 h4
      have g0 := (hT _ _ h0).1
      have g1 := (hT _ _ h1).1
      simp [execOp, ha.eval h2, convert, run_underlying g0, run_underlying g1, Conv.intToInt]
    · cases h
  · cases h
end
end Go.Sl
