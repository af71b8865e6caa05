/- Rules for masks, remainders, quotients and for equality of structs. Over any program; no condition of its own. -/
import Derived.Test.YtiefkpfamkkapaaSlG
set_option linter.unusedSimpArgs false
set_option linter.unusedVariables false
namespace Go.Sl
open Go Go.RowKit

section
variable {P : Program} {W : World} {T : Tab} {N : Nat} {env env' : Env} {h h' h2 : List Chunk} {kf : KF} {ops : Array Oper} {K : Env → List Chunk → Prop} {o : Oper} {rest : List Oper}

theorem mask_i64 (a : Int) (m : Nat) (hm : m ≤ 9223372036854775807) : ∃ n : Nat, n ≤ m ∧ ∀ w : World, (Op.intBits .and .i64 a (m : Int)).run P w = .ok (.int .i64 (n : Int)) w := by
  have hb : (BitVec.ofInt 64 a &&& BitVec.ofInt 64 (m : Int)).toNat ≤ m := by
    rw [BitVec.toNat_and]
    refine Nat.le_trans Nat.and_le_right ?_
    rw [BitVec.ofInt_natCast, BitVec.toNat_ofNat]
    exact Nat.mod_le _ _
  refine ⟨(BitVec.ofInt 64 a &&& BitVec.ofInt 64 (m : Int)).toNat, hb, fun w => ?_⟩
  show (pure (Value.int .i64 (IntKind.i64.wrap ((BitVec.ofInt 64 a &&& BitVec.ofInt 64 (m : Int)).toNat : Int))) : Sem Value).run P w = _
  rw [Sem.run_pure, IntWalk.i64_in _ ⟨by omega, by omega⟩]

/-- 'x & m', m a number that is not negative -/
theorem es_mask {b : Bool} {e : Int} {m : Nat} {d : Tmp} {t yt : TypeId} {x y : Operand} {ty pos af g} (hg : evalG ops env g = some b) (hb : b = true) (hd : Nat.blt d N = true) (hx : evalE env x = some (.int .i64 e)) (hy : evalE env y = some (.int .i64 (m : Int))) (hm : m ≤ 9223372036854775807)
    (hK : ∀ n : Nat, n ≤ m → ES P W N kf ops rest ((d, .int .i64 (n : Int)) :: env) h K) : ES P W N kf ops (⟨some d, .binOp .and t x y yt, ty, pos, af, g⟩ :: rest) env h K := by
  obtain ⟨n, hn, hr⟩ := mask_i64 (P := P) e m hm
  exact es_run hg hb hd (fun a ha w => by simp [execOp, ha.eval hx, ha.eval hy, eqGuard, binOp, hr]) (hK n hn)

theorem es_rem {b : Bool} {e f : Int} {k : IntKind} {d : Tmp} {t yt : TypeId} {x y : Operand} {ty pos af g} (hg : evalG ops env g = some b) (hb : b = true) (hd : Nat.blt d N = true) (hx : evalE env x = some (.int k e)) (hy : evalE env y = some (.int k f)) (he : 0 ≤ e) (hf : 0 < f)
    (hK : ES P W N kf ops rest ((d, .int k (e % f)) :: env) h K) : ES P W N kf ops (⟨some d, .binOp .rem t x y yt, ty, pos, af, g⟩ :: rest) env h K :=
  es_run hg hb hd (fun a ha w => by
    have h1 : f ≠ 0 := by omega
    simp [execOp, ha.eval hx, ha.eval hy, eqGuard, binOp, Op.intDiv, h1, Int.tmod_eq_emod_of_nonneg he]) hK

theorem es_quo {b : Bool} {e f : Int} {d : Tmp} {t yt : TypeId} {x y : Operand} {ty pos af g} (hg : evalG ops env g = some b) (hb : b = true) (hd : Nat.blt d N = true) (hx : evalE env x = some (.int .i64 e)) (hy : evalE env y = some (.int .i64 f)) (he : 0 ≤ e) (he2 : e ≤ 9223372036854775807) (hf : 0 < f)
    (hK : ES P W N kf ops rest ((d, .int .i64 (e / f)) :: env) h K) : ES P W N kf ops (⟨some d, .binOp .quo t x y yt, ty, pos, af, g⟩ :: rest) env h K :=
  es_run hg hb hd (fun a ha w => by
    have h1 : f ≠ 0 := by omega
    have h2 : e.tdiv f = e / f := Int.tdiv_eq_ediv_of_nonneg he
    have h3 : 0 ≤ e / f := Int.ediv_nonneg he (by omega)
    have h4 : e / f ≤ e := Int.ediv_le_self _ he
    have h5 : IntKind.i64.wrap (e / f) = e / f := IntWalk.i64_in _ ⟨by omega, by omega⟩
    simp [execOp, ha.eval hx, ha.eval hy, eqGuard, binOp, Op.intDiv, h1, h2, h5]) hK

/-! ### structs that are compared -/
def eqCell (T : Tab) (t : TypeId) (x y : Value) : Option Bool :=
  match T.lookup t with
  | some ⟨.int _, _, _, _⟩ => match x, y with
    | .int k a, .int k' b => if k = k' then some (a == b) else none
    | _, _ => none
  | some ⟨.bool, _, _, _⟩ => match x, y with
    | .bool a, .bool b => some (a == b)
    | _, _ => none
  | _ => none

def eqFs (T : Tab) (xs ys : List Value) : List Field → Option Bool
  | [] => some true
  | f :: fs => if f.name = "_" then none else
    match xs[f.offset]?, ys[f.offset]? with
    | some u, some v => match eqCell T f.type u v, eqFs T xs ys fs with
      | some a, some b => some (a && b)
      | _, _ => none
    | _, _ => none

def eqSt (T : Tab) (t : TypeId) (xs ys : Array Value) : Option Bool :=
  match T.lookup t with
  | some ⟨.struct fs, _, _, _⟩ => eqFs T xs.toList ys.toList fs.toList
  | _ => none

theorem eqCell_run (hT : TabOK P T) {t : TypeId} {x y : Value} {b : Bool} (he : eqCell T t x y = some b) (d : Nat) (w : World) : (Op.equalIn (d + 1) t x y).run P w = .ok b w ∧ (∃ ti, T.lookup t = some ti ∧ isAggD ti.desc = false) := by
  unfold eqCell at he
  split at he
  · rename_i k s bb z hl
    have g := (hT _ _ hl).und
    split at he
    · split at he
      · rename_i hk
        injection he with he
        subst he hk
        refine ⟨?_, _, hl, rfl⟩
        rw [Op.equalIn]
        simp only [Sem.run_bind, g, Result.andThen_ok, if_true, Sem.run_pure]
      · cases he
    · cases he
  · rename_i s bb z hl
    have g := (hT _ _ hl).und
    split at he
    · injection he with he
      subst he
      refine ⟨?_, _, hl, rfl⟩
      rw [Op.equalIn]
      simp only [Sem.run_bind, g, Result.andThen_ok, Sem.run_pure]
    · cases he
  · cases he

theorem eqFs_run (hT : TabOK P T) {xs ys : Array Value} (d : Nat) : ∀ {fs : List Field} {b : Bool}, eqFs T xs.toList ys.toList fs = some b → ∀ w : World, (Op.eqFields (d + 1) xs ys fs).run P w = .ok b w
  | [], b, he, w => by simp [eqFs] at he; simp [Op.eqFields, he]
  | f :: fs, b, he, w => by
    unfold eqFs at he
    split at he
    · cases he
    · rename_i hn
      split at he
      · rename_i u v hu hv
        split at he
        · rename_i a1 b1 h1 h2
          injection he with he
          subst he
          obtain ⟨h3, ti, hl, hag⟩ := eqCell_run hT h1 d w
          have ih := eqFs_run hT d h2 w
          have p1 : (part f.type xs f.offset).run P w = .ok u w := part_run hT (by simp only [partV, hl, hag]; simpa using hu) w
          have p2 : (part f.type ys f.offset).run P w = .ok v w := part_run hT (by simp only [partV, hl, hag]; simpa using hv) w
          unfold Op.eqFields
          rw [if_pos hn]
          simp only [Sem.run_bind, p1, p2, Result.andThen_ok, h3]
          cases a1
          · simp
          · simp [ih]
        · cases he
      · cases he

def structOK (P : Program) (t : TypeId) : Prop := P.stoodInHeld t = false ∧ P.eqGuardType P.depth t = false

theorem eqSt_run (hT : TabOK P T) {t : TypeId} {xs ys : Array Value} {b : Bool} (hs : structOK P t) (he : eqSt T t xs ys = some b) (w : World) : (Op.equalIn 10000 t (.agg xs) (.agg ys)).run P w = .ok b w := by
  unfold eqSt at he
  split at he
  · rename_i fs s bb z hl
    have hu : P.underlying t = some (.struct fs) := (hT _ _ hl).1
    have hf : P.fieldsOf t = fs := by simp [Program.fieldsOf, hu]
    rw [show (10000 : Nat) = 9999 + 1 from rfl, run_equalIn_struct w 9999 t xs ys (by rw [hf]; exact hu) hs.1, hf]
    exact eqFs_run hT 9998 he w
  · cases he

theorem es_eqS (hT : TabOK P T) {b r : Bool} {d : Tmp} {t yt : TypeId} {x y : Operand} {xs ys : Array Value} {ty pos af g} (hg : evalG ops env g = some b) (hb : b = true) (hd : Nat.blt d N = true) (hx : evalE env x = some (.agg xs)) (hy : evalE env y = some (.agg ys)) (he : eqSt T t xs ys = some r) (hs : structOK P t)
    (hK : ES P W N kf ops rest ((d, .bool r) :: env) h K) : ES P W N kf ops (⟨some d, .binOp .eql t x y yt, ty, pos, af, g⟩ :: rest) env h K :=
  es_run hg hb hd (fun a ha w => by
    have h1 := eqSt_run hT hs he w
    simp only [execOp, ha.eval hx, ha.eval hy, Sem.run_bind, run_eqGuard_agg w .eql t x y xs ys hs.2, Result.andThen_ok, run_eql_struct, h1, Sem.run_pure]) hK

theorem es_neS (hT : TabOK P T) {b r : Bool} {d : Tmp} {t yt : TypeId} {x y : Operand} {xs ys : Array Value} {ty pos af g} (hg : evalG ops env g = some b) (hb : b = true) (hd : Nat.blt d N = true) (hx : evalE env x = some (.agg xs)) (hy : evalE env y = some (.agg ys)) (he : eqSt T t xs ys = some r) (hs : structOK P t)
    (hK : ES P W N kf ops rest ((d, .bool (!r)) :: env) h K) : ES P W N kf ops (⟨some d, .binOp .neq t x y yt, ty, pos, af, g⟩ :: rest) env h K :=
  es_run hg hb hd (fun a ha w => by
    have h1 := eqSt_run hT hs he w
    simp only [execOp, ha.eval hx, ha.eval hy, Sem.run_bind, run_eqGuard_agg w .neq t x y xs ys hs.2, Result.andThen_ok, run_neq_struct, h1, Sem.run_pure]) hK
end

/-- one element of a row turned -/
theorem flat_lay {α : Type} {enc : α → List Value} {k : Nat} (hk : ∀ x, (enc x).length = k) : ∀ {l : List α} {i f : Nat} {x x' : α} {vs : List Value}, l[i]? = some x → f + vs.length ≤ k → enc x' = lay (enc x) f vs → lay (l.flatMap enc) (i * k + f) vs = (l.set i x').flatMap enc
  | [], i, f, x, x', vs, h, _, _ => by simp at h
  | y :: l, 0, f, x, x', vs, h, hf, he => by
    simp at h; subst h
    simp only [List.set_cons_zero, List.flatMap_cons, he, lay, Nat.zero_mul, Nat.zero_add]
    rw [List.take_append_of_le_length (by rw [hk]; omega), List.drop_append_of_le_length (by rw [hk]; omega)]
    simp
  | y :: l, i + 1, f, x, x', vs, h, hf, he => by
    have ih := flat_lay hk (l := l) (i := i) (f := f) (x' := x') (vs := vs) (by simpa using h) hf he
    simp only [List.set_cons_succ, List.flatMap_cons, ← ih, lay]
    have e : (i + 1) * k + f = (enc y).length + (i * k + f) := by rw [hk, Nat.succ_mul]; omega
    rw [e, List.take_length_add_append, show (enc y).length + (i * k + f) + vs.length = (enc y).length + (i * k + f + vs.length) by omega, List.drop_length_add_append]
    simp

theorem set_same {α : Type} {l : List α} {i : Nat} {x : α} (h : l[i]? = some x) : l.set i x = l := by
  apply List.ext_getElem?
  intro j
  rw [List.getElem?_set]
  have hl := (List.getElem?_eq_some_iff.1 h).1
  by_cases e : i = j
  · subst e; rw [if_pos rfl, if_pos hl, h]
  · simp [e]

/-- what a row that is owned is -/
structure OwnF (A : Option Addr) (n c k : Nat) (cs : List Value) : Prop where
  len : cs.length = n * k
  nc : n ≤ c
  cc : c ≤ 9223372036854775807
  some_ : 0 < n → A.isSome = true
  at_ : 0 < n → ∃ g, A = some ⟨g, 0, none⟩
  none_ : A = none → c = 0
  one : ∀ v ∈ cs, v.oneCell' = true
theorem Rep.ownF {W w : World} {h : List Chunk} (hw : Rep W h w) {A : Option Addr} {n cc k : Nat} {e : TypeId} {cs : List Value} (hm : Chunk.own A n cc e k cs ∈ h) : OwnF A n cc k cs := by
  have ho := hw.holds _ hm
  have hat : 0 < n → ∃ g, A = some ⟨g, 0, none⟩ := by
    intro h0
    rcases ho.1.2 with ⟨hv, hn⟩ | ⟨g', cap, cur, hv, _⟩
    · omega
    · injection hv with hA _ _; exact ⟨g', hA⟩
  refine ⟨ho.1.1, ?_, ?_, fun h0 => by obtain ⟨g, hg⟩ := hat h0; rw [hg]; rfl, hat, ?_, ho.2⟩
  · rcases ho.1.2 with ⟨hv, hn⟩ | ⟨g', cap, cur, hv, hb, hg, hnc, _⟩ <;> injection hv <;> omega
  · rcases ho.1.2 with ⟨hv, hn⟩ | ⟨g', cap, cur, hv, hb, hg, hnc, hcm, _⟩ <;> injection hv with _ _ hcc
    · omega
    · simp only [maxLen] at hcm; omega
  · intro hA
    rcases ho.1.2 with ⟨hv, hn⟩ | ⟨g', cap, cur, hv, _⟩
    · injection hv
    · injection hv with hA' _ _; rw [hA] at hA'; cases hA'
theorem OwnF.reads {W : World} {h : List Chunk} {A n c k cs} {t : TypeId} (ho : OwnF A n c k cs) (hm : Chunk.own A n c t k cs ∈ h) : Reads W h A n k cs := Reads.own hm ho.len ho.one

/-- all of what is left may be thrown away -/
theorem dt_all {h : List Chunk} : DropTo h [] := ⟨h, by simp⟩
theorem dt_app {h J k : List Chunk} (hd : DropTo h k) : DropTo (J ++ h) k := let ⟨J2, p⟩ := hd; ⟨J ++ J2, by rw [List.append_assoc]; exact p.append_left J⟩
theorem dt_mid {h F B : List Chunk} {c : Chunk} (hd : DropTo h (c :: (F ++ B))) : DropTo h (F ++ c :: B) := let ⟨J, p⟩ := hd; ⟨J, p.trans (List.perm_middle.symm.append_left J)⟩
theorem FSpec.dropF {P : Program} {W : World} {f : FuncId} {args : List Value} {h : List Chunk} {R : Value → List Chunk → Prop} (hs : FSpec P W f args h fun v h' => ∃ k, DropTo h' k ∧ ∀ w, Rep W k w → R v k) : FSpec P W f args h R :=
  FSpec.conv hs fun _ _ ⟨k, hd, hr⟩ w hw => ⟨k, hd.rep hw, hr w (hd.rep hw)⟩
theorem keep1 {X : Chunk} {h : List Chunk} (hx : X ∈ h) : ∀ c ∈ [X], c ∈ h := fun c hc => by rw [List.mem_singleton.1 hc]; exact hx
theorem loopq_end {α : Type} {E : α → Env} {H : α → List Chunk} {μ : α → Nat} {S : α → Prop} {x : α} {Q : Exit → Env → List Chunk → Prop} {env : Env} {h : List Chunk} (y : α) (h1 : μ y < μ x) (h2 : S y) (h3 : Sub env (E y)) (h4 : DropTo h (H y)) : LoopQ E H μ S x Q .normal env h :=
  let ⟨J, p⟩ := h4; ⟨y, J, h1, h2, h3, p⟩
theorem dt_perm {h k : List Chunk} (hp : h.Perm k) : DropTo h k := ⟨[], hp⟩
end Go.Sl
