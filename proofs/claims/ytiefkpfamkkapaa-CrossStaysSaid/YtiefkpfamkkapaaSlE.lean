/- Rules for code, contracts of functions, calls. Over any program; no condition of its own. -/
import Derived.Test.YtiefkpfamkkapaaSlD
set_option linter.unusedSimpArgs false
set_option linter.unusedVariables false
namespace Go.Sl
open Go Go.RowKit

/-- the function is there, with a body -/
def FunOK (P : Program) (f : FuncId) : Prop := ∃ fn, P.funcs[f]? = some fn ∧ (fn.name == "runtime.NumGoroutine") = false ∧ fn.body.isNone = false

/-- a contract -/
def FSpec (P : Program) (W : World) (f : FuncId) (args : List Value) (h : List Chunk) (R : Value → List Chunk → Prop) : Prop :=
  FunOK P f ∧ ∀ w, Rep W h w → Calls P f args.toArray w fun e w' => ∃ v h', e = .returned v ∧ R v h' ∧ Rep W h' w'

/-- a contract of a function that changes nothing that is known -/
def QSpec (P : Program) (W : World) (f : FuncId) (args : List Value) (h : List Chunk) (v : Value) : Prop :=
  FunOK P f ∧ ∀ h', (∀ c ∈ h, c ∈ h') → ∀ w, Rep W h' w → Calls P f args.toArray w fun e w' => e = .returned v ∧ Rep W h' w'

section
variable {P : Program} {W : World} {T : Tab} {N : Nat} {env env' : Env} {h h' h2 : List Chunk} {kf : KF} {ops : Array Oper} {K : Env → List Chunk → Prop} {o : Oper} {rest : List Oper} {Q : Exit → Env → List Chunk → Prop}
variable {f : FuncId} {args : List Value} {R R' : Value → List Chunk → Prop}

theorem FSpec.mono (hs : FSpec P W f args h R) (hr : ∀ v h', R v h' → R' v h') : FSpec P W f args h R' :=
  ⟨hs.1, fun w hw => (hs.2 w hw).mono fun _ _ ⟨v, h', e, r, rp⟩ => ⟨v, h', e, hr _ _ r, rp⟩⟩
theorem FSpec.perm (hs : FSpec P W f args h R) (hp : h'.Perm h) : FSpec P W f args h' R := ⟨hs.1, fun w hw => hs.2 w (hw.perm hp)⟩
/-- what is left over may be thrown away -/
theorem FSpec.drop (hs : FSpec P W f args h fun v h' => ∃ J k, h'.Perm (J ++ k) ∧ R v k) : FSpec P W f args h R :=
  ⟨hs.1, fun w hw => (hs.2 w hw).mono fun _ _ ⟨v, _, e, ⟨_, k, hp, r⟩, rp⟩ => ⟨v, k, e, r, (rp.perm hp).drop⟩⟩
theorem QSpec.spec {v : Value} (hs : QSpec P W f args h v) : FSpec P W f args h fun u h' => u = v ∧ h' = h :=
  ⟨hs.1, fun w hw => (hs.2 h (fun _ hc => hc) w hw).mono fun _ _ ⟨e, rp⟩ => ⟨v, h, e, ⟨rfl, rfl⟩, rp⟩⟩
theorem QSpec.of {v : Value} (hs : ∀ h', (∀ c ∈ h, c ∈ h') → FSpec P W f args h' fun u k => u = v ∧ ∃ J, k.Perm (J ++ h')) : QSpec P W f args h v :=
  ⟨(hs h (fun _ hc => hc)).1, fun h' hsub w hw => ((hs h' hsub).2 w hw).mono fun _ _ ⟨u, _, e, ⟨hu, _, hp⟩, rp⟩ => ⟨by rw [e, hu], (rp.perm hp).drop⟩⟩
theorem QSpec.mono {v : Value} (hs : QSpec P W f args h v) (hsub : ∀ c ∈ h, c ∈ h') : QSpec P W f args h' v := ⟨hs.1, fun h2 hs2 w hw => hs.2 h2 (fun c hc => hs2 c (hsub c hc)) w hw⟩
theorem QSpec.cast {v u : Value} (hs : QSpec P W f args h v) (e : v = u) : QSpec P W f args h u := e ▸ hs

theorem run_callee (hf : FunOK P f) {x : Operand} {as : Array Operand} {ats : Array TypeId} {a : Act} {first captured : Array Value} {vs : List Value} (ha : Agree N env a) (hx : evalE env x = some (.func (.func f) first captured)) (hv : evalEs env as.toList = some vs)
    {dst ty pos af g} (w : World) :
    (execOp a.eval ⟨dst, .call { callee := .value x, args := as, argTypes := ats }, ty, pos, af, g⟩).run P w = .ok (.enter f (first.toList ++ vs ++ captured.toList).toArray) w := by
  obtain ⟨fn, h1, h2, h3⟩ := hf
  have hvs := ha.evals hv
  have e3 : Array.map a.eval as = vs.toArray := by apply Array.ext'; simp [← hvs]
  simp only [execOp, resolve, ha.eval hx, Deferred.ofValue, Sem.run_bind, Sem.run_pure, Result.andThen_ok, invoke, callFunc, run_program, h1, h2, h3, e3]
  simp only [Bool.false_eq_true, if_false, Sem.run_pure]
  congr 2
  apply Array.ext'
  simp

theorem es_call {b : Bool} {d : Tmp} {ty pos af g} {x : Operand} {as : Array Operand} {ats : Array TypeId} {first captured : Array Value} {vs : List Value} (hg : evalG ops env g = some b) (hb : b = true) (hd : Nat.blt d N = true)
    (hk : (kf ⟨some d, .call { callee := .value x, args := as, argTypes := ats }, ty, pos, af, g⟩).wr = true)
    (hx : evalE env x = some (.func (.func f) first captured)) (hv : evalEs env as.toList = some vs) (hargs : first.toList ++ vs ++ captured.toList = args) (hs : FSpec P W f args h R)
    (hK : ∀ v h', R v h' → ES P W N kf ops rest ((d, v) :: env) h' K) : ES P W N kf ops (⟨some d, .call { callee := .value x, args := as, argTypes := ats }, ty, pos, af, g⟩ :: rest) env h K := fun a ha => by
  subst hb hargs
  refine opI_of_write (it := mkItem kf ops ⟨some d, .call { callee := .value x, args := as, argTypes := ats }, ty, pos, af, g⟩) (evalG_ok ha hg) (wr_of hk) (fun w hw => ?_)
  unfold Oper.wp
  show Oper.upon P _ a _ _ ((execOp a.eval ⟨some d, .call { callee := .value x, args := as, argTypes := ats }, ty, pos, af, g⟩).run P w)
  rw [run_callee hs.1 ha hx hv]
  rw [Oper.upon_enter]
  refine (hs.2 w hw).mono fun e w' ⟨v, h', he, hr, hrep⟩ => ?_
  subst he
  exact ⟨h', hrep, hK v h' hr _ (ha.put (d := some d) hd)⟩

/-- a call that leaves what is looked at -/
theorem es_callG {b : Bool} {d : Tmp} {ty pos af g} {x : Operand} {as : Array Operand} {ats : Array TypeId} {first captured : Array Value} {vs : List Value} (hg : evalG ops env g = some b) (hb : b = true) (hd : Nat.blt d N = true)
    (hk : (kf ⟨some d, .call { callee := .value x, args := as, argTypes := ats }, ty, pos, af, g⟩).gr = true)
    (hx : evalE env x = some (.func (.func f) first captured)) (hv : evalEs env as.toList = some vs) (hargs : first.toList ++ vs ++ captured.toList = args) (hs : FSpec P W f args h R)
    (hK : ∀ v h', R v h' → (∀ c ∈ kf.keep, c ∈ h') ∧ ES P W N kf ops rest ((d, v) :: env) h' K) : ES P W N kf ops (⟨some d, .call { callee := .value x, args := as, argTypes := ats }, ty, pos, af, g⟩ :: rest) env h K := fun a ha => by
  subst hb hargs
  refine opI_of_grow (it := mkItem kf ops ⟨some d, .call { callee := .value x, args := as, argTypes := ats }, ty, pos, af, g⟩) (evalG_ok ha hg) (gr_of hk) (fun w hw => ?_)
  unfold Oper.wp
  show Oper.upon P _ a _ _ ((execOp a.eval ⟨some d, .call { callee := .value x, args := as, argTypes := ats }, ty, pos, af, g⟩).run P w)
  rw [run_callee hs.1 ha hx hv]
  rw [Oper.upon_enter]
  refine (hs.2 w hw).mono fun e w' ⟨v, h', he, hr, hrep⟩ => ?_
  subst he
  exact ⟨h', ⟨hrep, (hK v h' hr).1⟩, (hK v h' hr).2 _ (ha.put (d := some d) hd)⟩

theorem es_callA {b : Bool} {d : Tmp} {ty pos af g} {x : Operand} {as : Array Operand} {ats : Array TypeId} {first captured : Array Value} {vs : List Value} (hg : evalG ops env g = some b) (hb : b = true) (hd : Nat.blt d N = true)
    (hk : (kf ⟨some d, .call { callee := .value x, args := as, argTypes := ats }, ty, pos, af, g⟩).al = true)
    (hx : evalE env x = some (.func (.func f) first captured)) (hv : evalEs env as.toList = some vs) (hargs : first.toList ++ vs ++ captured.toList = args) (hs : FSpec P W f args h R)
    (hK : ∀ v h', R v h' → ∃ cs, h' = cs ++ h ∧ ES P W N kf ops rest ((d, v) :: env) h' K) : ES P W N kf ops (⟨some d, .call { callee := .value x, args := as, argTypes := ats }, ty, pos, af, g⟩ :: rest) env h K := fun a ha => by
  subst hb hargs
  refine opI_of_alloc (it := mkItem kf ops ⟨some d, .call { callee := .value x, args := as, argTypes := ats }, ty, pos, af, g⟩) (evalG_ok ha hg) (al_of hk) (fun w hw => ?_)
  unfold Oper.wp
  show Oper.upon P _ a _ _ ((execOp a.eval ⟨some d, .call { callee := .value x, args := as, argTypes := ats }, ty, pos, af, g⟩).run P w)
  rw [run_callee hs.1 ha hx hv]
  rw [Oper.upon_enter]
  refine (hs.2 w hw).mono fun e w' ⟨v, h', he, hr, hrep⟩ => ?_
  subst he
  obtain ⟨cs, hcs, hk⟩ := hK v h' hr
  subst hcs
  exact ⟨cs, hrep, hk _ (ha.put (d := some d) hd)⟩

theorem es_callQ {b : Bool} {d : Tmp} {ty pos af g} {x : Operand} {as : Array Operand} {ats : Array TypeId} {first captured : Array Value} {vs : List Value} {v : Value} (hg : evalG ops env g = some b) (hb : b = true) (hd : Nat.blt d N = true)
    (hk : (kf ⟨some d, .call { callee := .value x, args := as, argTypes := ats }, ty, pos, af, g⟩).np = true)
    (hx : evalE env x = some (.func (.func f) first captured)) (hv : evalEs env as.toList = some vs) (hargs : first.toList ++ vs ++ captured.toList = args) (hs : QSpec P W f args h v)
    (hK : ES P W N kf ops rest ((d, v) :: env) h K) : ES P W N kf ops (⟨some d, .call { callee := .value x, args := as, argTypes := ats }, ty, pos, af, g⟩ :: rest) env h K := fun a ha => by
  subst hb hargs
  refine opI_of_quiet (it := mkItem kf ops ⟨some d, .call { callee := .value x, args := as, argTypes := ats }, ty, pos, af, g⟩) (v := v) (evalG_ok ha hg) (np_of hk) (fun h' hsub w hw => ?_) (hK _ (ha.put (d := some d) hd))
  unfold Oper.quietAt
  show Oper.quietUpon P _ w v ((execOp a.eval ⟨some d, .call { callee := .value x, args := as, argTypes := ats }, ty, pos, af, g⟩).run P w)
  rw [run_callee hs.1 ha hx hv]
  exact ⟨rfl, hs.2 h' hsub w hw⟩

theorem es_call0 {b : Bool} {ty pos af g} {x : Operand} {as : Array Operand} {ats : Array TypeId} {first captured : Array Value} {vs : List Value} (hg : evalG ops env g = some b) (hb : b = true)
    (hk : (kf ⟨none, .call { callee := .value x, args := as, argTypes := ats }, ty, pos, af, g⟩).wr = true)
    (hx : evalE env x = some (.func (.func f) first captured)) (hv : evalEs env as.toList = some vs) (hargs : first.toList ++ vs ++ captured.toList = args) (hs : FSpec P W f args h R)
    (hK : ∀ v h', R v h' → ES P W N kf ops rest env h' K) : ES P W N kf ops (⟨none, .call { callee := .value x, args := as, argTypes := ats }, ty, pos, af, g⟩ :: rest) env h K := fun a ha => by
  subst hb hargs
  refine opI_of_write (it := mkItem kf ops ⟨none, .call { callee := .value x, args := as, argTypes := ats }, ty, pos, af, g⟩) (evalG_ok ha hg) (wr_of hk) (fun w hw => ?_)
  unfold Oper.wp
  show Oper.upon P _ a _ _ ((execOp a.eval ⟨none, .call { callee := .value x, args := as, argTypes := ats }, ty, pos, af, g⟩).run P w)
  rw [run_callee hs.1 ha hx hv]
  rw [Oper.upon_enter]
  refine (hs.2 w hw).mono fun e w' ⟨v, h', he, hr, hrep⟩ => ?_
  subst he
  exact ⟨h', hrep, hK v h' hr _ ha⟩

theorem es_callQ0 {b : Bool} {ty pos af g} {x : Operand} {as : Array Operand} {ats : Array TypeId} {first captured : Array Value} {vs : List Value} {v : Value} (hg : evalG ops env g = some b) (hb : b = true)
    (hk : (kf ⟨none, .call { callee := .value x, args := as, argTypes := ats }, ty, pos, af, g⟩).np = true)
    (hx : evalE env x = some (.func (.func f) first captured)) (hv : evalEs env as.toList = some vs) (hargs : first.toList ++ vs ++ captured.toList = args) (hs : QSpec P W f args h v)
    (hK : ES P W N kf ops rest env h K) : ES P W N kf ops (⟨none, .call { callee := .value x, args := as, argTypes := ats }, ty, pos, af, g⟩ :: rest) env h K := fun a ha => by
  subst hb hargs
  refine opI_of_quiet (it := mkItem kf ops ⟨none, .call { callee := .value x, args := as, argTypes := ats }, ty, pos, af, g⟩) (v := v) (evalG_ok ha hg) (np_of hk) (fun h' hsub w hw => ?_) (hK _ ha)
  unfold Oper.quietAt
  show Oper.quietUpon P _ w v ((execOp a.eval ⟨none, .call { callee := .value x, args := as, argTypes := ats }, ty, pos, af, g⟩).run P w)
  rw [run_callee hs.1 ha hx hv]
  exact ⟨rfl, hs.2 h' hsub w hw⟩

/-! ### code -/
def AW (P : Program) (W : World) (N : Nat) (c : Code) (env : Env) (h : List Chunk) (Q : Exit → Env → List Chunk → Prop) : Prop :=
  ∀ a w, Agree N env a → Rep W h w → c.wp P (fun ex a' w' => ∃ env' h', Q ex env' h' ∧ Agree N env' a' ∧ Rep W h' w') a w

def SeqQ (P : Program) (W : World) (N : Nat) (y : Code) (Q : Exit → Env → List Chunk → Prop) : Exit → Env → List Chunk → Prop
  | .normal, env, h => AW P W N y env h Q
  | ex, env, h => Q ex env h

def BlockQ (id : Nat) (Q : Exit → Env → List Chunk → Prop) : Exit → Env → List Chunk → Prop
  | .exit i, env, h => if i = id then Q .normal env h else Q (.exit i) env h
  | ex, env, h => Q ex env h

theorem aw_skip (hq : Q .normal env h) : AW P W N .skip env h Q := fun _ _ ha hw => wp_skip ⟨env, h, hq, ha, hw⟩
theorem aw_exit {id : Nat} (hq : Q (.exit id) env h) : AW P W N (.exit id) env h Q := fun _ _ ha hw => wp_exit ⟨env, h, hq, ha, hw⟩
theorem aw_ret (hq : Q .ret env h) : AW P W N .ret env h Q := fun _ _ ha hw => wp_ret ⟨env, h, hq, ha, hw⟩
theorem aw_seq {x y : Code} (hx : AW P W N x env h (SeqQ P W N y Q)) : AW P W N (.seq x y) env h Q := fun a w ha hw => by
  refine wp_seq (Code.wp_mono (fun ex a' w' ⟨env', h', hq, ha', hw'⟩ => ?_) (hx a w ha hw))
  cases ex with
  | normal => exact hq a' w' ha' hw'
  | _ => exact ⟨env', h', hq, ha', hw'⟩
theorem aw_block {id : Nat} {c : Code} (hc : AW P W N c env h (BlockQ id Q)) : AW P W N (.block id c) env h Q := fun a w ha hw => by
  refine wp_block (Code.wp_mono (fun ex a' w' ⟨env', h', hq, ha', hw'⟩ => ?_) (hc a w ha hw))
  cases ex with
  | exit i =>
    simp only [BlockQ] at hq
    simp only [Exit.inBlock]
    split at hq <;> rename_i hi <;> simp only [hi, if_true, if_false] <;> exact ⟨env', h', hq, ha', hw'⟩
  | _ => exact ⟨env', h', hq, ha', hw'⟩
theorem aw_cond {c : Operand} {x y : Code} {t : Bool} (hc : evalE env c = some (.bool t)) (h1 : t = true → AW P W N x env h Q) (h0 : t = false → AW P W N y env h Q) : AW P W N (.cond c x y) env h Q := fun a w ha hw =>
  wp_cond_split (ha.eval hc) (fun e => h1 e a w ha hw) (fun e => h0 e a w ha hw)
theorem aw_condT {c : Operand} {x y : Code} {t : Bool} (hc : evalE env c = some (.bool t)) (ht : t = true) (h1 : AW P W N x env h Q) : AW P W N (.cond c x y) env h Q := fun a w ha hw =>
  wp_cond_true (by rw [ha.eval hc, ht]) (h1 a w ha hw)
theorem aw_condF {c : Operand} {x y : Code} {t : Bool} (hc : evalE env c = some (.bool t)) (ht : t = false) (h1 : AW P W N y env h Q) : AW P W N (.cond c x y) env h Q := fun a w ha hw =>
  wp_cond_false (by rw [ha.eval hc, ht]) (h1 a w ha hw)

theorem lex_items (ops : Array Oper) (kf : KF) : lexItems ops (fun i => match ops[i]? with | some o => kf o | none => .write) kf.keep = ops.toList.map (mkItem kf ops) := by
  unfold lexItems
  have key : ∀ (l : List Oper) (k : Nat), (∀ j, l[j]? = ops[k + j]?) → (List.range' k l.length).filterMap (itemAt (fun i => match ops[i]? with | some o => kf o | none => .write) kf.keep ops) = l.map (mkItem kf ops) := by
    intro l
    induction l with
    | nil => intro k _; rfl
    | cons o l ih =>
      intro k hl
      have h0 : ops[k]? = some o := by simpa using (hl 0).symm
      rw [List.length_cons, List.range'_succ, List.filterMap_cons]
      have : itemAt (fun i => match ops[i]? with | some o => kf o | none => .write) kf.keep ops k = some (mkItem kf ops o) := by unfold itemAt; simp only [h0, Option.map_some]; rfl
      rw [this, ih (k + 1) (fun j => by have := hl (j + 1); simpa [Nat.add_assoc, Nat.add_comm 1 j] using this)]
      rfl
  have := key ops.toList 0 (by simp)
  rw [List.range_eq_range', ← Array.length_toList, this]

theorem aw_region {id : Nat} {l : List Oper} (hes : ES P W N kfN l.toArray l env h fun env' h' => Q .normal env' h') : AW P W N (.region id l.toArray false) env h Q := fun a w ha hw => by
  refine region_seq (W := W) (kp := kfN.keep) (kd := fun i => match l.toArray[i]? with | some o => kfN o | none => .write) (Q := fun a' h' => ∃ env', Q .normal env' h' ∧ Agree N env' a') (fun a' h' w' hw' ⟨env', hq, ha'⟩ => ⟨env', h', hq, ha', hw'⟩) hw ?_
  rw [lex_items]
  exact hes a ha

def kdOf (kf : KF) (ops : Array Oper) : Nat → Kd := fun i => match ops.toList[i]? with
  | some o => kf o
  | none => .write

theorem plan_items (ops : Array Oper) (kf : KF) : ∀ (order : List Nat), planItems ops (kdOf kf ops) kf.keep order = (order.filterMap (ops.toList[·]?)).map (mkItem kf ops)
  | [] => rfl
  | i :: order => by
    have ih := plan_items ops kf order
    unfold planItems at *
    rw [List.filterMap_cons, List.filterMap_cons]
    cases hi : ops[i]? with
    | none =>
      have e1 : itemAt (kdOf kf ops) kf.keep ops i = none := by unfold itemAt; rw [hi]; rfl
      have e2 : ops.toList[i]? = none := by simpa using hi
      rw [e1, e2]; exact ih
    | some o =>
      have e2 : ops.toList[i]? = some o := by simpa using hi
      have e1 : itemAt (kdOf kf ops) kf.keep ops i = some (mkItem kf ops o) := by unfold itemAt; simp only [hi, Option.map_some, kdOf, e2]; rfl
      rw [e1, e2, List.map_cons, ih]

/-- a region whose order is drawn: 'order': the plan; 'l': its operations in that order -/
theorem aw_plan {id : Nat} {ol l : List Oper} (q al : List FuncId) (order : List Nat) (hm : P.follows .mixedOrders = true)
    (hp : (Region.noSelect ol.toArray && (order.length == ol.toArray.size && planOK (kdOf (kfD q al) ol.toArray) ol.toArray (Region.before ol.toArray) order (Array.replicate ol.toArray.size false))) = true)
    (hl : order.filterMap (ol[·]?) = l) (hes : ES P W N (kfD q al) ol.toArray l env h fun env' h' => Q .normal env' h') : AW P W N (.region id ol.toArray true) env h Q := fun a w ha hw => by
  refine region_plan (W := W) (kp := (kfD q al).keep) (kd := kdOf (kfD q al) ol.toArray) (Q := fun a' h' => ∃ env', Q .normal env' h' ∧ Agree N env' a') (fun a' h' w' hw' ⟨env', hq, ha'⟩ => ⟨env', h', hq, ha', hw'⟩) hm hp hw ?_
  rw [plan_items]
  simp only [hl]
  exact hes a ha

/-- a region, walked along a plan that parts -/
def EP (P : Program) (W : World) (N : Nat) (kf : KF) (ops : Array Oper) (p : Plan) (env : Env) (h : List Chunk) (K : Env → List Chunk → Prop) : Prop :=
  ∀ a, Agree N env a → seqP P W (kdOf kf ops) kf.keep ops (fun a' h' => ∃ env', K env' h' ∧ Agree N env' a') p a h
theorem ep_nil (hK : K env h) : EP P W N kf ops .nil env h K := fun _ ha => ⟨env, hK, ha⟩
theorem ep_alt {p q : Plan} (h1 : EP P W N kf ops p env h K) (h2 : EP P W N kf ops q env h K) : EP P W N kf ops (.alt p q) env h K := fun a ha => ⟨h1 a ha, h2 a ha⟩
theorem ep_step {i : Nat} {o : Oper} {p : Plan} (ho : ops.toList[i]? = some o) (hes : ES P W N kf ops [o] env h fun env' h' => EP P W N kf ops p env' h' K) : EP P W N kf ops (.step i p) env h K := fun a ha it hit => by
  have ho' : ops[i]? = some o := by simpa using ho
  have e1 : itemAt (kdOf kf ops) kf.keep ops i = some (mkItem kf ops o) := by unfold itemAt; simp only [ho', Option.map_some, kdOf, ho]; rfl
  rw [e1] at hit
  injection hit with hit
  subst hit
  exact opI_mono (fun a' h' ⟨env', h1, h2⟩ => h1 a' h2) (hes a ha)

theorem aw_tree {id : Nat} {ol : List Oper} (q al : List FuncId) (p : Plan) (hm : P.follows .mixedOrders = true)
    (hp : (Region.noSelect ol.toArray && (p.len == ol.toArray.size && (p.even && Plan.ok (kdOf (kfG [] q al) ol.toArray) ol.toArray (Region.before ol.toArray) false p (Array.replicate ol.toArray.size false)))) = true)
    (hep : EP P W N (kfG h q al) ol.toArray p env h fun env' h' => Q .normal env' h') : AW P W N (.region id ol.toArray true) env h Q := fun a w ha hw => by
  exact region_tree (W := W) (kp := h) (kd := kdOf (kfG h q al) ol.toArray) (Q := fun a' h' => ∃ env', Q .normal env' h' ∧ Agree N env' a') (fun a' h' w' hw' ⟨env', hq, ha'⟩ => ⟨env', h', hq, ha', hw'⟩) hm hp hw (hep a ha)

/-- .. where what is looked at is told -/
theorem aw_treeH (H : List Chunk) {id : Nat} {ol : List Oper} (q al : List FuncId) (p : Plan) (hm : P.follows .mixedOrders = true)
    (hp : (Region.noSelect ol.toArray && (p.len == ol.toArray.size && (p.even && Plan.ok (kdOf (kfG [] q al) ol.toArray) ol.toArray (Region.before ol.toArray) false p (Array.replicate ol.toArray.size false)))) = true)
    (hep : EP P W N (kfG H q al) ol.toArray p env h fun env' h' => Q .normal env' h') : AW P W N (.region id ol.toArray true) env h Q := fun a w ha hw => by
  exact region_tree (W := W) (kp := H) (kd := kdOf (kfG H q al) ol.toArray) (Q := fun a' h' => ∃ env', Q .normal env' h' ∧ Agree N env' a') (fun a' h' w' hw' ⟨env', hq, ha'⟩ => ⟨env', h', hq, ha', hw'⟩) hm hp hw (hep a ha)

/-- what is asked of a frame -/
def Sub (env : Env) : Env → Prop
  | [] => True
  | (t, v) :: e => env.lookup t = some v ∧ Sub env e

theorem sub_agree {a : Act} : ∀ {e : Env}, Sub env e → Agree N env a → Agree N e a
  | [], _, ha => ⟨ha.size, ha.defers, fun t v hv => by simp at hv⟩
  | (t, v) :: e, hs, ha => ⟨ha.size, ha.defers, fun u x hx => by
      rw [List.lookup_cons] at hx
      split at hx
      · rename_i he
        obtain rfl : u = t := by simpa using he
        injection hx with hx
        subst hx
        exact ha.at_ _ _ hs.1
      · exact (sub_agree hs.2 ha).at_ u x hx⟩

theorem aw_weaken {c : Code} {e : Env} {J : List Chunk} (hs : Sub env e) (hp : h.Perm (J ++ h')) (hc : AW P W N c e h' Q) : AW P W N c env h Q := fun a w ha hw => hc a w (sub_agree hs ha) (hw.perm hp).drop

def LoopQ {α : Type} (E : α → Env) (H : α → List Chunk) (μ : α → Nat) (S : α → Prop) (x : α) (Q : Exit → Env → List Chunk → Prop) : Exit → Env → List Chunk → Prop
  | .normal, env, h => ∃ y J, μ y < μ x ∧ S y ∧ Sub env (E y) ∧ h.Perm (J ++ H y)
  | ex, env, h => Q ex env h

theorem aw_loop {α : Type} {c : Code} (E : α → Env) (H : α → List Chunk) (μ : α → Nat) (S : α → Prop) (x : α) {J : List Chunk} (hs : S x) (he : Sub env (E x)) (hp : h.Perm (J ++ H x))
    (hc : ∀ x, S x → AW P W N c (E x) (H x) (LoopQ E H μ S x Q)) : AW P W N (.loop c) env h Q := fun a w ha hw => by
  classical
  let I : Act → World → Prop := fun a w => ∃ x, S x ∧ Agree N (E x) a ∧ Rep W (H x) w
  have hI0 : I a w := ⟨x, hs, sub_agree he ha, (hw.perm hp).drop⟩
  let μ' : Act → World → Nat := fun a w => if hI : I a w then
    (Classical.epsilon fun n => ∃ x, S x ∧ Agree N (E x) a ∧ Rep W (H x) w ∧ μ x = n ∧ ∀ y, S y → Agree N (E y) a → Rep W (H y) w → n ≤ μ y) else 0
  have hmin : ∀ a w, I a w → ∃ x, S x ∧ Agree N (E x) a ∧ Rep W (H x) w ∧ μ x = μ' a w ∧ ∀ y, S y → Agree N (E y) a → Rep W (H y) w → μ' a w ≤ μ y := by
    intro a w hI
    have hex : ∃ n, ∃ x, S x ∧ Agree N (E x) a ∧ Rep W (H x) w ∧ μ x = n ∧ ∀ y, S y → Agree N (E y) a → Rep W (H y) w → n ≤ μ y := by
      have key : ∀ n, (∃ x, S x ∧ Agree N (E x) a ∧ Rep W (H x) w ∧ μ x = n) → ∃ n, ∃ x, S x ∧ Agree N (E x) a ∧ Rep W (H x) w ∧ μ x = n ∧ ∀ y, S y → Agree N (E y) a → Rep W (H y) w → n ≤ μ y := by
        intro n
        induction n using Nat.strongRecOn with
        | _ n ih =>
          rintro ⟨x, h1, h2, h3, h4⟩
          by_cases hq : ∀ y, S y → Agree N (E y) a → Rep W (H y) w → n ≤ μ y
          · exact ⟨n, x, h1, h2, h3, h4, hq⟩
          · simp only [Classical.not_forall, Nat.not_le] at hq
            obtain ⟨y, k1, k2, k3, k4⟩ := hq
            exact ih (μ y) k4 ⟨y, k1, k2, k3, rfl⟩
      obtain ⟨x, h1, h2, h3⟩ := hI
      exact key (μ x) ⟨x, h1, h2, h3, rfl⟩
    have := Classical.epsilon_spec hex
    have e : μ' a w = Classical.epsilon fun n => ∃ x, S x ∧ Agree N (E x) a ∧ Rep W (H x) w ∧ μ x = n ∧ ∀ y, S y → Agree N (E y) a → Rep W (H y) w → n ≤ μ y := dif_pos hI
    rw [e]
    exact this
  refine wp_loop I μ' hI0 (fun a w hI => ?_)
  obtain ⟨x, h1, h2, h3, h4, _⟩ := hmin a w hI
  refine Code.wp_mono (fun ex a' w' ⟨env', h', hq, ha', hw'⟩ => ?_) (hc x h1 a w h2 h3)
  cases ex with
  | normal =>
    obtain ⟨y, J, k1, k2, k3, k4⟩ := hq
    have ha2 := sub_agree k3 ha'
    have hw2 := (hw'.perm k4).drop
    have hI' : I a' w' := ⟨y, k2, ha2, hw2⟩
    obtain ⟨_, _, _, _, _, hle⟩ := hmin a' w' hI'
    have := hle y k2 ha2 hw2
    exact ⟨hI', by omega⟩
  | _ => exact ⟨env', h', hq, ha', hw'⟩

/-! ### a function's body -/
def argEnv : Nat → List Value → Env
  | _, [] => []
  | i, v :: vs => (i, v) :: argEnv (i + 1) vs

theorem argEnv_look : ∀ (vs : List Value) (i t : Nat) (v : Value), (argEnv i vs).lookup t = some v → i ≤ t ∧ vs[t - i]? = some v
  | [], _, _, _, hv => by simp [argEnv] at hv
  | u :: vs, i, t, v, hv => by
    rw [argEnv, List.lookup_cons] at hv
    split at hv
    · rename_i he
      obtain rfl : t = i := by simpa using he
      injection hv with hv
      subst hv
      simp
    · have := argEnv_look vs (i + 1) t v hv
      refine ⟨by omega, ?_⟩
      rw [show t - i = (t - (i + 1)) + 1 by omega]
      simpa using this.2

def RetVs (P : Program) (W : World) (h : List Chunk) (env : Env) : List ResultVar → List Value → Prop
  | [], [] => True
  | .tmp t :: rs, v :: vs => env.lookup t = some v ∧ RetVs P W h env rs vs
  | .cell a t :: rs, v :: vs => (∃ ad, env.lookup a = some (.pointer (some ad)) ∧ Ld P W h t ad v) ∧ RetVs P W h env rs vs
  | _, _ => False

def oneV : List Value → Value
  | [v] => v
  | vs => .tuple vs.toArray

def RetQ (P : Program) (W : World) (res : List ResultVar) (R : Value → List Chunk → Prop) : Exit → Env → List Chunk → Prop
  | .ret, env, h => ∃ vs, RetVs P W h env res vs ∧ R (oneV vs) h
  | .normal, env, h => ∃ vs, RetVs P W h env res vs ∧ R (oneV vs) h
  | _, _, _ => False

def resOne (tmps : Array Value) : ResultVar → Sem Value
  | .tmp t => pure (tmps.getD t undef)
  | .cell a t => do loadVar t (← asAddr (tmps.getD a undef))
theorem results_eq (fn : Func) (tmps : Array Value) : results fn tmps = (do
    let vs ← fn.results.mapM (resOne tmps)
    pure (if h : vs.size = 1 then vs[0] else .tuple vs)) := by
  unfold results
  congr 2

theorem results_run {fn : Func} {a : Act} {w : World} {vs : List Value} (ha : Agree N env a) (hw : Rep W h w) (hr : RetVs P W h env fn.results.toList vs) : (results fn a.tmps).run P w = .ok (oneV vs) w := by
  have hws : RepS W h w := hw.weak fun _ hc => hc
  have key : ∀ (rs : List ResultVar) (vs : List Value), RetVs P W h env rs vs → (rs.mapM (resOne a.tmps)).run P w = .ok vs w := by
    intro rs
    induction rs with
    | nil => intro vs hv; cases vs <;> simp [RetVs] at hv ⊢
    | cons r rs ih =>
      intro vs hv
      cases vs with
      | nil => cases r <;> simp [RetVs] at hv
      | cons v vs =>
        cases r with
        | tmp t =>
          have h1 := ha.at_ t v hv.1
          simp only [List.mapM_cons, resOne, Sem.run_bind, Sem.run_pure, Result.andThen_ok, ih vs hv.2]
          simp [h1]
        | cell c t =>
          obtain ⟨⟨ad, h1, h2⟩, h3⟩ := hv
          have h1 := ha.at_ c _ h1
          have h2 := h2 w hws
          simp only [Instr.loadAt, Instr.sureAddr, Sem.run_bind, Sem.run_pure, Result.andThen_ok] at h2
          have h4 : a.tmps.getD c undef = .pointer (some ad) := by simp [h1]
          simp only [List.mapM_cons, resOne, Sem.run_bind, h4, asAddr, Sem.run_pure, Result.andThen_ok, h2, ih vs h3]
  have := key _ _ hr
  rw [results_eq, Array.mapM_eq_mapM_toList]
  simp only [Sem.run_bind, Sem.run_map, this, Result.andThen_ok, Sem.run_pure]
  cases vs with
  | nil => rfl
  | cons v vs => cases vs with
    | nil => rfl
    | cons u us => simp [oneV]

theorem spec_body {fn : Func} {c : Code} (hf : P.funcs[f]? = some fn) (hb : fn.body = some c) (hn : (fn.name == "runtime.NumGoroutine") = false) {res : Array ResultVar} (hres : fn.results = res) {N : Nat} (hN : fn.ntmps = N) (hargs : Nat.ble args.length N = true) {E : Env} (hE : argEnv 0 args = E)
    (hbody : AW P W N c E h (RetQ P W res.toList R)) : FSpec P W f args h R := by
  subst hN hres hE
  have hargs := Nat.le_of_ble_eq_true hargs
  refine ⟨⟨fn, hf, hn, by rw [hb]; rfl⟩, fun w hw => calls_of_wp hf hb ?_⟩
  have ha : Agree fn.ntmps (argEnv 0 args) { tmps := args.toArray ++ Array.replicate (fn.ntmps - args.toArray.size) undef, defers := [] } := by
    refine ⟨by simp; omega, rfl, fun t v hv => ?_⟩
    obtain ⟨_, h2⟩ := argEnv_look args 0 t v hv
    have hlt : t < args.length := by simpa using (List.getElem?_eq_some_iff.1 h2).1
    rw [Array.getElem?_append_left (by simpa using hlt)]
    simpa using h2
  refine Code.wp_mono (fun ex a' w' ⟨env', h', hq, ha', hw'⟩ => ?_) (hbody _ w ha hw)
  cases ex with
  | ret => obtain ⟨vs, hv, hr⟩ := hq; exact ⟨ha'.defers, _, results_run ha' hw' hv, _, h', rfl, hr, hw'⟩
  | normal => obtain ⟨vs, hv, hr⟩ := hq; exact ⟨ha'.defers, _, results_run ha' hw' hv, _, h', rfl, hr, hw'⟩
  | _ => exact hq.elim
end
end Go.Sl
