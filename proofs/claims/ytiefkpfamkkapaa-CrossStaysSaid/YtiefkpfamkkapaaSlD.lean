/- Rules for the operations of a region, and for loads and stores. Over any program; no condition of its own. -/
import Derived.Test.YtiefkpfamkkapaaSlC
set_option linter.unusedSimpArgs false
set_option linter.unusedVariables false
namespace Go.Sl
open Go Go.RowKit

/-- the kinds of a region's operations, and what is not turned meanwhile -/
structure KF where
  kd : Oper → Kd
  keep : List Chunk
instance : CoeFun KF (fun _ => Oper → Kd) := ⟨KF.kd⟩
def kfN : KF := ⟨fun _ => .write, []⟩
def Kd.np : Kd → Bool
  | .pure => false
  | .look => false
  | _ => true
def Kd.al : Kd → Bool
  | .alloc => true
  | .write => true
  | .grow => true
  | _ => false
def Kd.gr : Kd → Bool
  | .write => true
  | .grow => true
  | _ => false
def Kd.lk : Kd → Bool
  | .look => true
  | _ => false
def Kd.wr : Kd → Bool
  | .write => true
  | _ => false
theorem np_of {k : Kd} (h : k.np = true) : k ≠ .pure ∧ k ≠ .look := by cases k <;> simp_all [Kd.np]
theorem al_of {k : Kd} (h : k.al = true) : k = .alloc ∨ k = .write ∨ k = .grow := by cases k <;> simp_all [Kd.al]
theorem gr_of {k : Kd} (h : k.gr = true) : k = .write ∨ k = .grow := by cases k <;> simp_all [Kd.gr]
theorem lk_of {k : Kd} (h : k.lk = true) : k = .look := by cases k <;> simp_all [Kd.lk]
theorem wr_of {k : Kd} (h : k.wr = true) : k = .write := by cases k <;> simp_all [Kd.wr]

/-- the kinds: 'q' the functions that only read, 'al' those that only make -/
def kfDk (q al : List FuncId) (o : Oper) : Kd :=
  match o.op with
  | .load .. => .quiet
  | .box .. | .alloc .. | .buildSlice .. | .makeSlice .. => .alloc
  | .store .. | .mapUpdate .. | .mapEntry .. | .entryStore .. | .insert .. | .makeMap .. | .lookup .. => .write
  | .call { callee := .value (.func f), .. } => if q.contains f then .quiet else if al.contains f then .alloc else .write
  | .call { callee := .builtin b, .. } => (match b with
    | .len | .min | .max | .cap => .pure
    | _ => .write)
  | .call _ => .write
  | _ => .pure

def kfD (q al : List FuncId) : KF := ⟨kfDk q al, []⟩
/-- the kinds where what is made may grow in place: all that is looked at was there at the region's start -/
def kfGk (q al : List FuncId) (o : Oper) : Kd :=
  match o.op with
  | .load .. => .look
  | .box .. | .alloc .. | .buildSlice .. | .makeSlice .. => .alloc
  | .store .. | .mapUpdate .. | .mapEntry .. | .entryStore .. | .insert .. | .makeMap .. | .lookup .. => .write
  | .call { callee := .value (.func f), .. } => if q.contains f then .look else if al.contains f then .grow else .write
  | .call { callee := .builtin b, .. } => (match b with
    | .len | .min | .max | .cap => .pure
    | .append => .grow
    | _ => .write)
  | .call _ => .write
  | _ => .pure
def kfG (H : List Chunk) (q al : List FuncId) : KF := ⟨kfGk q al, H⟩

def mkItem (kf : KF) (ops : Array Oper) (o : Oper) : Item := ⟨kf.kd o, kf.keep, o, o.guard.map fun jb => ((ops[jb.1]?).bind (·.dst), jb.2)⟩

def evalG (ops : Array Oper) (env : Env) (g : Option (Nat × Bool)) : Option Bool :=
  match g with
  | none => some true
  | some (j, b) => match (ops.toList[j]?).bind (·.dst) with
    | none => some false
    | some t => match env.lookup t with
      | some (.bool x) => some (x == b)
      | some _ => some false
      | none => none

/-- the bool that a guard asks -/
def guardB (ops : Array Oper) (env : Env) (g : Option (Nat × Bool)) : Option Bool :=
  match g with
  | none => none
  | some (j, _) => match (ops.toList[j]?).bind (·.dst) with
    | none => none
    | some t => match env.lookup t with
      | some (.bool x) => some x
      | _ => none

section
variable {P : Program} {W : World} {T : Tab} {N : Nat} {env : Env} {h h' : List Chunk} {kf : KF} {ops : Array Oper} {K : Env → List Chunk → Prop} {o : Oper} {rest : List Oper}

theorem evalG_ok {a : Act} {b : Bool} (ha : Agree N env a) (hg : evalG ops env o.guard = some b) : gOk (mkItem kf ops o).g a.tmps = b := by
  unfold evalG at hg
  unfold mkItem gOk
  cases hq : o.guard with
  | none => simp [hq] at hg ⊢; exact hg
  | some jb =>
    obtain ⟨j, c⟩ := jb
    simp only [hq, Option.map_some] at hg ⊢
    have e : (ops.toList[j]?).bind (·.dst) = (ops[j]?).bind (·.dst) := by simp
    rw [e] at hg
    split at hg
    · rename_i h1
      injection hg with hg
      simp [h1, hg]
    · rename_i t h1
      split at hg
      · rename_i x h2
        injection hg with hg
        have := ha.at_ t _ h2
        simp only [h1, Option.bind_some, this, hg]
      · rename_i x hx h2
        injection hg with hg
        have := ha.at_ t _ h2
        subst hg
        simp only [h1, Option.bind_some, this]
        cases x <;> first | rfl | (rename_i y; exact (hx y rfl).elim)
      · cases hg

/-- a region's operations, walked in the order of a list -/
def ES (P : Program) (W : World) (N : Nat) (kf : KF) (ops : Array Oper) (l : List Oper) (env : Env) (h : List Chunk) (K : Env → List Chunk → Prop) : Prop :=
  ∀ a, Agree N env a → seqS P W (fun a' h' => ∃ env', K env' h' ∧ Agree N env' a') (l.map (mkItem kf ops)) a h

theorem es_nil (hK : K env h) : ES P W N kf ops [] env h K := fun _ ha => ⟨env, hK, ha⟩

theorem opI_of_pure {it : Item} {a : Act} {v : Value} {K : Act → List Chunk → Prop} (hg : gOk it.g a.tmps = true) (hv : ∀ w, (execOp a.eval it.o).run P w = .ok (.value v) w) (hk : K (a.put it.o.dst v) h) : opI P W it K a h := by
  unfold opI
  simp only [hg, if_true]
  split
  · exact ⟨v, hv, hk⟩
  · exact ⟨v, fun h' _ w _ => by unfold Oper.quietAt; rw [hv]; exact ⟨rfl, rfl⟩, hk⟩
  · exact fun w hw => by unfold Oper.wp; rw [hv]; exact ⟨[], hw, hk⟩
  · exact fun w hw => by unfold Oper.wp; rw [hv]; exact ⟨h, hw, hk⟩
  · exact ⟨v, .inl hv, hk⟩
  · exact fun w hw => by unfold Oper.wp; rw [hv]; exact ⟨h, ⟨hw, fun e => e⟩, hk⟩

theorem opI_of_quiet {it : Item} {a : Act} {v : Value} {K : Act → List Chunk → Prop} (hg : gOk it.g a.tmps = true) (hkd : it.kd ≠ .pure ∧ it.kd ≠ .look)
    (hv : ∀ h', (∀ c ∈ h, c ∈ h') → ∀ w, Rep W h' w → it.o.quietAt P a (Rep W h') w v) (hk : K (a.put it.o.dst v) h) : opI P W it K a h := by
  have key : ∀ (K' : Act → World → Prop), (∀ w, Rep W h w → K' (a.put it.o.dst v) w) → ∀ w, Rep W h w → it.o.wp P a w K' (fun _ _ _ => False) := fun K' hK' w hw => by
    have h3 := hv h (fun _ hc => hc) w hw
    unfold Oper.quietAt at h3
    unfold Oper.wp
    generalize (execOp a.eval it.o).run P w = r at *
    cases r with
    | ok n w' =>
      cases n <;> simp only [Oper.quietUpon] at h3 <;> simp only [Oper.upon]
      · obtain ⟨rfl, rfl⟩ := h3; exact hK' _ hw
      · obtain ⟨rfl, rfl⟩ := h3; exact hK' _ hw
      · obtain ⟨rfl, hc⟩ := h3
        exact hc.mono fun e w'' ⟨he, hw''⟩ => by subst he; exact hK' _ hw''
    | halt x w' => simp only [Oper.quietUpon] at h3
  unfold opI
  simp only [hg, if_true]
  split
  · rename_i hp; exact absurd hp hkd.1
  · exact ⟨v, hv, hk⟩
  · exact key _ fun w hw => ⟨[], hw, hk⟩
  · exact key _ fun w hw => ⟨h, hw, hk⟩
  · rename_i hp; exact absurd hp hkd.2
  · exact key _ fun w hw => ⟨h, ⟨hw, fun e => e⟩, hk⟩

theorem opI_of_look {it : Item} {a : Act} {v : Value} {K : Act → List Chunk → Prop} (hg : gOk it.g a.tmps = true) (hkd : it.kd = .look) (hkp : ∀ c ∈ it.keep, c ∈ h)
    (hv : ∀ h', (∀ c ∈ it.keep, c ∈ h') → ∀ w, Rep W h' w → it.o.quietAt P a (Rep W h') w v) (hk : K (a.put it.o.dst v) h) : opI P W it K a h := by
  unfold opI
  simp only [hg, if_true, hkd]
  exact ⟨v, .inr ⟨hkp, hv⟩, hk⟩

theorem opI_of_grow {it : Item} {a : Act} {K : Act → List Chunk → Prop} (hg : gOk it.g a.tmps = true) (hkd : it.kd = .write ∨ it.kd = .grow)
    (hv : ∀ w, Rep W h w → it.o.wp P a w (fun a' w' => ∃ h', (Rep W h' w' ∧ ∀ c ∈ it.keep, c ∈ h') ∧ K a' h') (fun _ _ _ => False)) : opI P W it K a h := by
  unfold opI
  simp only [hg, if_true]
  rcases hkd with hk | hk <;> simp only [hk]
  · exact fun w hw => wp_mono2 (fun a w' ⟨h', h3, h4⟩ => ⟨h', h3.1, h4⟩) (fun _ _ _ h => h) (hv w hw)
  · exact fun w hw => wp_mono2 (fun a w' ⟨h', h3, h4⟩ => ⟨h', ⟨h3.1, fun _ => h3.2⟩, h4⟩) (fun _ _ _ h => h) (hv w hw)

theorem opI_of_alloc {it : Item} {a : Act} {K : Act → List Chunk → Prop} (hg : gOk it.g a.tmps = true) (hkd : it.kd = .alloc ∨ it.kd = .write ∨ it.kd = .grow)
    (hv : ∀ w, Rep W h w → it.o.wp P a w (fun a' w' => ∃ cs, Rep W (cs ++ h) w' ∧ K a' (cs ++ h)) (fun _ _ _ => False)) : opI P W it K a h := by
  unfold opI
  simp only [hg, if_true]
  rcases hkd with hk | hk | hk <;> simp only [hk]
  · exact hv
  · exact fun w hw => wp_mono2 (fun a w' ⟨cs, h3, h4⟩ => ⟨cs ++ h, h3, h4⟩) (fun _ _ _ h => h) (hv w hw)
  · exact fun w hw => wp_mono2 (fun a w' ⟨cs, h3, h4⟩ => ⟨cs ++ h, ⟨h3, fun e c hc => List.mem_append_right _ (e c hc)⟩, h4⟩) (fun _ _ _ h => h) (hv w hw)

theorem opI_of_write {it : Item} {a : Act} {K : Act → List Chunk → Prop} (hg : gOk it.g a.tmps = true) (hkd : it.kd = .write)
    (hv : ∀ w, Rep W h w → it.o.wp P a w (fun a' w' => ∃ h', Rep W h' w' ∧ K a' h') (fun _ _ _ => False)) : opI P W it K a h := by
  unfold opI
  simp only [hg, if_true, hkd]
  exact hv

/-- the guard says no -/
theorem es_skip {b : Bool} {d : Tmp} {op ty pos af g} (hg : evalG ops env g = some b) (hb : b = false) (hd : Nat.blt d N = true) (hK : ES P W N kf ops rest ((d, undef) :: env) h K) : ES P W N kf ops (⟨some d, op, ty, pos, af, g⟩ :: rest) env h K := fun a ha => by
  subst hb
  show opI P W (mkItem kf ops ⟨some d, op, ty, pos, af, g⟩) _ a h
  unfold opI
  rw [evalG_ok (kf := kf) (o := ⟨some d, op, ty, pos, af, g⟩) ha hg]
  exact hK _ (ha.put (d := some d) hd)
theorem es_skip0 {b : Bool} {op ty pos af g} (hg : evalG ops env g = some b) (hb : b = false) (hK : ES P W N kf ops rest env h K) : ES P W N kf ops (⟨none, op, ty, pos, af, g⟩ :: rest) env h K := fun a ha => by
  subst hb
  show opI P W (mkItem kf ops ⟨none, op, ty, pos, af, g⟩) _ a h
  unfold opI
  rw [evalG_ok (kf := kf) (o := ⟨none, op, ty, pos, af, g⟩) ha hg]
  exact hK _ ha

/-- the guard is not yet decided -/
theorem es_case {dst op ty pos af g} {x : Bool} (_hg : guardB ops env g = some x) (h1 : x = true → ES P W N kf ops (⟨dst, op, ty, pos, af, g⟩ :: rest) env h K) (h0 : x = false → ES P W N kf ops (⟨dst, op, ty, pos, af, g⟩ :: rest) env h K) : ES P W N kf ops (⟨dst, op, ty, pos, af, g⟩ :: rest) env h K := by
  cases x
  · exact h0 rfl
  · exact h1 rfl

theorem es_run {b : Bool} {v : Value} {d : Tmp} {op ty pos af g} (hg : evalG ops env g = some b) (hb : b = true) (hd : Nat.blt d N = true)
    (hv : ∀ a, Agree N env a → ∀ w, (execOp a.eval ⟨some d, op, ty, pos, af, g⟩).run P w = .ok (.value v) w)
    (hK : ES P W N kf ops rest ((d, v) :: env) h K) : ES P W N kf ops (⟨some d, op, ty, pos, af, g⟩ :: rest) env h K := fun a ha => by
  subst hb
  exact opI_of_pure (it := mkItem kf ops ⟨some d, op, ty, pos, af, g⟩) (evalG_ok ha hg) (hv a ha) (hK _ (ha.put (d := some d) hd))

theorem es_pure (hT : TabOK P T) {b : Bool} {v : Value} {d : Tmp} {op ty pos af g} (hg : evalG ops env g = some b) (hb : b = true) (hd : Nat.blt d N = true) (hv : evalPure T env op = some v)
    (hK : ES P W N kf ops rest ((d, v) :: env) h K) : ES P W N kf ops (⟨some d, op, ty, pos, af, g⟩ :: rest) env h K :=
  es_run hg hb hd (fun _ ha w => evalPure_run hT ha hv w) hK

theorem es_arith (hT : TabOK P T) {b : Bool} {k : IntKind} {e : Int} {d : Tmp} {op ty pos af g} (hg : evalG ops env g = some b) (hb : b = true) (hd : Nat.blt d N = true) (hv : evalArith T env op = some (k, e))
    (hK : ES P W N kf ops rest ((d, .int k (k.wrap e)) :: env) h K) : ES P W N kf ops (⟨some d, op, ty, pos, af, g⟩ :: rest) env h K :=
  es_run hg hb hd (fun _ ha w => evalArith_run hT ha hv w) hK

theorem es_i64 (hT : TabOK P T) {b : Bool} {e : Int} {d : Tmp} {op ty pos af g} (hg : evalG ops env g = some b) (hb : b = true) (hd : Nat.blt d N = true) (hv : evalArith T env op = some (.i64, e))
    (h1 : -9223372036854775808 ≤ e) (h2 : e ≤ 9223372036854775807)
    (hK : ES P W N kf ops rest ((d, .int .i64 e) :: env) h K) : ES P W N kf ops (⟨some d, op, ty, pos, af, g⟩ :: rest) env h K :=
  es_run hg hb hd (fun _ ha w => by rw [evalArith_run hT ha hv w, IntWalk.i64_in e ⟨h1, h2⟩]) hK

/-! ### pick, with its bool known beside -/
theorem es_pick {b x : Bool} {d : Tmp} {ty pos af g} {c p q : Operand} {v : Value} (hg : evalG ops env g = some b) (hb : b = true) (hd : Nat.blt d N = true) (hc : evalE env c = some (.bool x)) (hx : x = true) (hv : evalE env p = some v)
    (hK : ES P W N kf ops rest ((d, v) :: env) h K) : ES P W N kf ops (⟨some d, .pick c p q, ty, pos, af, g⟩ :: rest) env h K :=
  es_run hg hb hd (fun a ha w => by subst hx; simp [execOp, ha.eval hc, ha.eval hv, asBool]) hK
theorem es_pickn {b x : Bool} {d : Tmp} {ty pos af g} {c p q : Operand} {v : Value} (hg : evalG ops env g = some b) (hb : b = true) (hd : Nat.blt d N = true) (hc : evalE env c = some (.bool x)) (hx : x = false) (hv : evalE env q = some v)
    (hK : ES P W N kf ops rest ((d, v) :: env) h K) : ES P W N kf ops (⟨some d, .pick c p q, ty, pos, af, g⟩ :: rest) env h K :=
  es_run hg hb hd (fun a ha w => by subst hx; simp [execOp, ha.eval hc, ha.eval hv, asBool]) hK

/-! ### loads -/
def Ld (P : Program) (W : World) (h : List Chunk) (t : TypeId) (ad : Addr) (v : Value) : Prop := ∀ w, RepS W h w → (Instr.loadAt t (.pointer (some ad))).run P w = .ok v w

theorem es_load {b : Bool} {d : Tmp} {ty pos af g} {t : TypeId} {x : Operand} {ad : Addr} {v : Value} (hg : evalG ops env g = some b) (hb : b = true) (hd : Nat.blt d N = true) (hk : (kf ⟨some d, .load t x, ty, pos, af, g⟩).np = true)
    (hx : evalE env x = some (.pointer (some ad))) (hl : Ld P W h t ad v)
    (hK : ES P W N kf ops rest ((d, v) :: env) h K) : ES P W N kf ops (⟨some d, .load t x, ty, pos, af, g⟩ :: rest) env h K := fun a ha => by
  subst hb
  refine opI_of_quiet (it := mkItem kf ops ⟨some d, .load t x, ty, pos, af, g⟩) (v := v) (evalG_ok ha hg) (np_of hk) (fun h' hs w hw => ?_) (hK _ (ha.put (d := some d) hd))
  have := hl w (hw.weak hs)
  unfold Oper.quietAt
  simp only [mkItem, execOp, ha.eval hx, Sem.run_bind, this, Result.andThen_ok, Sem.run_pure]
  exact ⟨rfl, rfl⟩

/-- a load of what was there at the region's start -/
theorem es_loadL {b : Bool} {d : Tmp} {ty pos af g} {t : TypeId} {x : Operand} {ad : Addr} {v : Value} (hg : evalG ops env g = some b) (hb : b = true) (hd : Nat.blt d N = true) (hk : (kf ⟨some d, .load t x, ty, pos, af, g⟩).lk = true)
    (hx : evalE env x = some (.pointer (some ad))) (hkp : ∀ c ∈ kf.keep, c ∈ h) (hl : Ld P W kf.keep t ad v)
    (hK : ES P W N kf ops rest ((d, v) :: env) h K) : ES P W N kf ops (⟨some d, .load t x, ty, pos, af, g⟩ :: rest) env h K := fun a ha => by
  subst hb
  refine opI_of_look (it := mkItem kf ops ⟨some d, .load t x, ty, pos, af, g⟩) (v := v) (evalG_ok ha hg) (lk_of hk) hkp (fun h' hs w hw => ?_) (hK _ (ha.put (d := some d) hd))
  have := hl w (hw.weak hs)
  unfold Oper.quietAt
  simp only [mkItem, execOp, ha.eval hx, Sem.run_bind, this, Result.andThen_ok, Sem.run_pure]
  exact ⟨rfl, rfl⟩

theorem run_loadAt_agg (hT : TabOK P T) {t : TypeId} {ti : TI} (ht : T.lookup t = some ti) (hag : isAggD ti.desc = true) {ad : Addr} {w : World} {cs : List Value} (hl : cs.length = ti.size)
    (hc : ∀ j v, cs[j]? = some v → w.cell? (ad.add j) = some v) : (Instr.loadAt t (.pointer (some ad))).run P w = .ok (.agg cs.toArray) w := by
  have g := hT _ _ ht
  have := run_loadCells_list (P := P) w ad cs hc
  simp only [Instr.loadAt, Instr.sureAddr, loadVar, Sem.run_bind, Sem.run_pure, Result.andThen_ok, g.ag, hag, if_true, g.sz, ← hl, this]

theorem run_loadAt_one (hT : TabOK P T) {t : TypeId} {ti : TI} (ht : T.lookup t = some ti) (hag : isAggD ti.desc = false) {ad : Addr} {w : World} {v : Value}
    (hc : w.cell? ad = some v) : (Instr.loadAt t (.pointer (some ad))).run P w = .ok v w := by
  have g := hT _ _ ht
  simp [Instr.loadAt, Instr.sureAddr, loadVar, g.ag, hag, hc]

theorem add_blk (g off n : Nat) : (⟨g, off, none⟩ : Addr).add n = ⟨g, off + n, none⟩ := by unfold Addr.add; split <;> simp_all
theorem adr_add (A : Option Addr) (o f : Nat) : (adr A o).add f = adr A (o + f) := by
  unfold adr Addr.add
  by_cases h1 : o = 0 <;> by_cases h2 : f = 0 <;> simp [h1, h2, Nat.add_assoc]

theorem ld_blk (hT : TabOK P T) {t : TypeId} {ti : TI} {ad : Addr} {tt : TypeId} {cs : List Value} {v : Value} (ht : T.lookup t = some ti) (hag : isAggD ti.desc = false)
    (hm : Chunk.blk ad.block tt cs ∈ h) (hs : ad.spot = none) (hv : cs[ad.off]? = some v) : Ld P W h t ad v := fun w hw =>
  run_loadAt_one hT ht hag (by have := hw.cell_blk hm ad.off; obtain ⟨b, off, s⟩ := ad; simp only at hs; subst hs; rw [this, hv])

theorem ld_blks (hT : TabOK P T) {t : TypeId} {ti : TI} {ad : Addr} {tt : TypeId} {cs : List Value} (ht : T.lookup t = some ti) (hag : isAggD ti.desc = true)
    (hm : Chunk.blk ad.block tt cs ∈ h) (hs : ad.spot = none) (hl : ad.off + ti.size ≤ cs.length) : Ld P W h t ad (.agg ((cs.drop ad.off).take ti.size).toArray) := fun w hw =>
  run_loadAt_agg hT ht hag (by simp; omega) (fun j v hj => by
    obtain ⟨b, off, s⟩ := ad; simp only at hs; subst hs
    rw [add_blk, hw.cell_blk hm]
    simp only [List.getElem?_take, List.getElem?_drop] at hj
    split at hj
    · exact hj
    · cases hj)

/-- the whole block -/
theorem ld_all (hT : TabOK P T) {t : TypeId} {ti : TI} {g : Nat} {tt : TypeId} {cs : List Value} (ht : T.lookup t = some ti) (hag : isAggD ti.desc = true)
    (hm : Chunk.blk g tt cs ∈ h) (hl : cs.length = ti.size) : Ld P W h t ⟨g, 0, none⟩ (.agg cs.toArray) := fun w hw =>
  run_loadAt_agg hT ht hag hl (fun j v hj => by rw [add_blk, hw.cell_blk hm, Nat.zero_add]; exact hj)

theorem ld_row (hT : TabOK P T) {t : TypeId} {ti : TI} {ad : Addr} {A : Option Addr} {n k o : Nat} {cs : List Value} {v : Value} (ht : T.lookup t = some ti) (hag : isAggD ti.desc = false)
    (hr : Reads W h A n k cs) (had : ad = adr A o) (hv : cs[o]? = some v) : Ld P W h t ad v := fun w hw =>
  run_loadAt_one hT ht hag (by rw [had]; exact (hr.2.2 w hw o v hv).2)

theorem ld_rows (hT : TabOK P T) {t : TypeId} {ti : TI} {ad : Addr} {A : Option Addr} {n k o : Nat} {cs vs : List Value} (ht : T.lookup t = some ti) (hag : isAggD ti.desc = true)
    (hr : Reads W h A n k cs) (had : ad = adr A o) (hl : vs.length = ti.size) (hv : ∀ j v, vs[j]? = some v → cs[o + j]? = some v) : Ld P W h t ad (.agg vs.toArray) := fun w hw =>
  run_loadAt_agg hT ht hag hl (fun j v hj => by rw [had, adr_add]; exact (hr.2.2 w hw _ v (hv j v hj)).2)

/-! ### cells of a row of things of one shape -/
theorem flat_len {α : Type} {enc : α → List Value} {k : Nat} (hk : ∀ x, (enc x).length = k) : ∀ l : List α, (l.flatMap enc).length = l.length * k
  | [] => by simp
  | x :: l => by simp [flat_len hk l, hk, Nat.add_mul, Nat.add_comm]

theorem flat_at {α : Type} {enc : α → List Value} {k : Nat} (hk : ∀ x, (enc x).length = k) : ∀ (l : List α) (i f : Nat) (x : α), l[i]? = some x → f < k → (l.flatMap enc)[i * k + f]? = (enc x)[f]?
  | [], i, f, x, h, _ => by simp at h
  | y :: l, 0, f, x, h, hf => by
    simp at h; subst h
    simp only [List.flatMap_cons, Nat.zero_mul, Nat.zero_add]
    rw [List.getElem?_append_left (by rw [hk]; exact hf)]
  | y :: l, i + 1, f, x, h, hf => by
    simp only [List.flatMap_cons]
    rw [List.getElem?_append_right (by rw [hk, Nat.add_mul]; omega)]
    rw [show (i + 1) * k + f - (enc y).length = i * k + f from by rw [hk, Nat.add_mul]; omega]
    exact flat_at hk l i f x (by simpa using h) hf

theorem ld_fld (hT : TabOK P T) {α : Type} {enc : α → List Value} {t : TypeId} {ti : TI} {ad : Addr} {A : Option Addr} {n k i f : Nat} {l : List α} {x : α} {v : Value} (ht : T.lookup t = some ti) (hag : isAggD ti.desc = false)
    (hr : Reads W h A n k (l.flatMap enc)) (hk : ∀ x, (enc x).length = k) (had : ad = adr A (i * k + f)) (hx : l[i]? = some x) (hf : f < k) (hv : (enc x)[f]? = some v) : Ld P W h t ad v :=
  ld_row hT ht hag hr had (by rw [flat_at hk l i f x hx hf]; exact hv)

theorem ld_elem (hT : TabOK P T) {α : Type} {enc : α → List Value} {t : TypeId} {ti : TI} {ad : Addr} {A : Option Addr} {n k i : Nat} {l : List α} {x : α} (ht : T.lookup t = some ti) (hag : isAggD ti.desc = true)
    (hr : Reads W h A n k (l.flatMap enc)) (hk : ∀ x, (enc x).length = k) (had : ad = adr A (i * k)) (hx : l[i]? = some x) (hs : ti.size = k) : Ld P W h t ad (.agg (enc x).toArray) :=
  ld_rows hT ht hag hr had (by rw [hk, hs]) (fun j v hj => by
    have hlt : j < k := by rw [← hk x]; exact (List.getElem?_eq_some_iff.1 hj).1
    rw [flat_at hk l i j x hx hlt]; exact hj)

/-- a part of an element -/
theorem ld_sub (hT : TabOK P T) {α : Type} {enc : α → List Value} {t : TypeId} {ti : TI} {ad : Addr} {A : Option Addr} {n k i f : Nat} {l : List α} {x : α} {vs : List Value} (ht : T.lookup t = some ti) (hag : isAggD ti.desc = true)
    (hr : Reads W h A n k (l.flatMap enc)) (hk : ∀ x, (enc x).length = k) (had : ad = adr A (i * k + f)) (hx : l[i]? = some x) (hf : f + vs.length ≤ k) (hs : vs.length = ti.size) (hv : (enc x).drop f = vs ++ (enc x).drop (f + vs.length)) : Ld P W h t ad (.agg vs.toArray) :=
  ld_rows hT ht hag hr had hs (fun j v hj => by
    have hlt : j < vs.length := (List.getElem?_eq_some_iff.1 hj).1
    rw [Nat.add_assoc, flat_at hk l i (f + j) x hx (by omega), ← List.getElem?_drop, hv, List.getElem?_append_left hlt, hj])

/-! ### new blocks -/
theorem es_box {b : Bool} {d : Tmp} {ty pos af g} {t : TypeId} {x : Operand} {v : Value} (hg : evalG ops env g = some b) (hb : b = true) (hd : Nat.blt d N = true) (hk : (kf ⟨some d, .box t x, ty, pos, af, g⟩).al = true)
    (hx : evalE env x = some v)
    (hK : ∀ g', ES P W N kf ops rest ((d, (.pointer (some ⟨g', 0, none⟩))) :: env) (.blk g' t v.cells.toList :: h) K) : ES P W N kf ops (⟨some d, .box t x, ty, pos, af, g⟩ :: rest) env h K := fun a ha => by
  subst hb
  refine opI_of_alloc (it := mkItem kf ops ⟨some d, .box t x, ty, pos, af, g⟩) (evalG_ok ha hg) (al_of hk) (fun w hw => ?_)
  have e : (execOp a.eval ⟨some d, .box t x, ty, pos, af, g⟩).run P w = .ok (.value (.pointer (some ⟨w.heap.size, 0, none⟩))) (w.alloc (.cells v.cells t)) := by
    simp [execOp, ha.eval hx, Instr.box, newVar, newRow]
  unfold Oper.wp
  show Oper.upon P _ a _ _ ((execOp a.eval ⟨some d, .box t x, ty, pos, af, g⟩).run P w)
  rw [e]
  refine ⟨[.blk w.heap.size t v.cells.toList], ?_, hK w.heap.size _ (ha.put (d := some d) hd)⟩
  have := hw.alloc_blk t v.cells.toList
  simpa using this

theorem es_alloc (hT : TabOK P T) {b : Bool} {d : Tmp} {ty pos af g} {t : TypeId} {ti : TI} (hg : evalG ops env g = some b) (hb : b = true) (hd : Nat.blt d N = true) (hk : (kf ⟨some d, .alloc t, ty, pos, af, g⟩).al = true)
    (ht : T.lookup t = some ti)
    (hK : ∀ g', ES P W N kf ops rest ((d, (.pointer (some ⟨g', 0, none⟩))) :: env) (.blk g' t ti.zero.cells.toList :: h) K) : ES P W N kf ops (⟨some d, .alloc t, ty, pos, af, g⟩ :: rest) env h K := fun a ha => by
  subst hb
  refine opI_of_alloc (it := mkItem kf ops ⟨some d, .alloc t, ty, pos, af, g⟩) (evalG_ok ha hg) (al_of hk) (fun w hw => ?_)
  have gd := hT _ _ ht
  have e : (execOp a.eval ⟨some d, .alloc t, ty, pos, af, g⟩).run P w = .ok (.value (.pointer (some ⟨w.heap.size, 0, none⟩))) (w.alloc (.cells ti.zero.cells t)) := by
    simp [execOp, Instr.alloc, newVar, newRow, gd.zv]
  unfold Oper.wp
  show Oper.upon P _ a _ _ ((execOp a.eval ⟨some d, .alloc t, ty, pos, af, g⟩).run P w)
  rw [e]
  refine ⟨[.blk w.heap.size t ti.zero.cells.toList], ?_, hK w.heap.size _ (ha.put (d := some d) hd)⟩
  have := hw.alloc_blk t ti.zero.cells.toList
  simpa using this

/-! ### stores -/
theorem Rep.setRow_blk {w : World} {g : Nat} {t : TypeId} {cs cs' : List Value} (hr : Rep W (.blk g t cs :: h) w) : Rep W (.blk g t cs' :: h) (w.setRow g cs'.toArray) := by
  have hg := (hr.holds (.blk g t cs) (by simp))
  refine hr.change (row := some g) ⟨rfl, rfl, rfl, by simp, fun k _ hk => setRow_other w g k _ (fun e => hk (by rw [e]))⟩ (fun g' e => by simp [Chunk.keys]; exact (Option.some.inj e).symm) ⟨hg.1, setRow_heap w g _ _ t _ hg.2⟩ (fun g' hg' => .inl hg')

theorem Rep.setRow_own {w : World} {g n c k : Nat} {t : TypeId} {cs : List Value} {cur : Array Value} (hr : Rep W (.own (some ⟨g, 0, none⟩) n c t k cs :: h) w)
    (hcur : w.heap[g]? = some (.cells cur t (0, 0))) {n' : Nat} {new : List Value} {cs' : List Value} (hl : new.length = cur.size) (ht : new.take (n' * k) = cs') (hcs : cs'.length = n' * k) (hn : n' ≤ c) (h1 : ∀ v ∈ cs', v.oneCell' = true) :
    Rep W (.own (some ⟨g, 0, none⟩) n' c t k cs' :: h) (w.setRow g new.toArray) := by
  have hg := (hr.holds (.own (some ⟨g, 0, none⟩) n c t k cs) (by simp))
  refine hr.change (row := some g) ⟨rfl, rfl, rfl, by simp, fun k _ hk => setRow_other w g k _ (fun e => hk (by rw [e]))⟩ (fun g' e => by simp [Chunk.keys]; exact (Option.some.inj e).symm) ?_ (fun g' hg' => .inl (by simpa [Chunk.keys] using hg'))
  obtain ⟨ho, hone⟩ := hg
  rcases ho.2 with ⟨hv, _⟩ | ⟨g', cap, cur', hv, hb, hg', hnc, hcm, hsz, _⟩
  · cases hv
  · injection hv with hA _ hc
    injection hA with hA
    injection hA with hA _ _
    subst hA hc
    rw [hg'] at hcur
    injection hcur with hcur
    injection hcur with hcur _ _
    subst hcur
    exact ⟨⟨hcs, .inr ⟨g, c, new.toArray, rfl, hb, setRow_heap w g _ _ t _ hg', hn, hcm, by simp [hl, hsz], by simpa using ht⟩⟩, h1⟩

theorem run_storeAt (hT : TabOK P T) {t : TypeId} {ti : TI} (ht : T.lookup t = some ti) {g off : Nat} {w : World} {v : Value} {tt : TypeId} {cur : Array Value} (hsz : v.cells.size = ti.size) (h1 : v.cells.toList.all Value.oneCell' = true)
    (hcur : w.heap[g]? = some (.cells cur tt (0, 0))) (hl : off + ti.size ≤ cur.size) :
    (Instr.storeAt t (.pointer (some ⟨g, off, none⟩)) v).run P w = .ok () (w.setRow g (cur.toList.take off ++ v.cells.toList ++ cur.toList.drop (off + ti.size)).toArray) := by
  have gd := hT _ _ ht
  have hst := run_storeCells_at P g off tt v.cells.toList 0 cur w hcur (by simpa [hsz] using hl) (fun u hu => List.all_eq_true.1 h1 u hu)
  simp only [Nat.add_zero] at hst
  simp only [Instr.storeAt, Instr.sureAddr, storeVar, Sem.run_bind, Sem.run_pure, Result.andThen_ok, gd.sz, hsz, ne_eq, not_true_eq_false, if_false]
  rw [hst]
  simp [hsz]

/-- cells 'vs' laid at 'off' -/
def lay (cs : List Value) (off : Nat) (vs : List Value) : List Value := cs.take off ++ vs ++ cs.drop (off + vs.length)

theorem es_store (hT : TabOK P T) {b : Bool} {ty pos af g} {t : TypeId} {ti : TI} {x y : Operand} {ad : Addr} {v : Value} {tt : TypeId} {cs : List Value} (hg : evalG ops env g = some b) (hb : b = true)
    (hk : (kf ⟨none, .store t x y, ty, pos, af, g⟩).wr = true) (hx : evalE env x = some (.pointer (some ad))) (hy : evalE env y = some v) (ht : T.lookup t = some ti)
    (hp : h.Perm (.blk ad.block tt cs :: h')) (hs : ad.spot = none) (hsz : v.cells.size = ti.size) (h1 : v.cells.toList.all Value.oneCell' = true) (hl : ad.off + ti.size ≤ cs.length)
    (hK : ES P W N kf ops rest env (.blk ad.block tt (lay cs ad.off v.cells.toList) :: h') K) : ES P W N kf ops (⟨none, .store t x y, ty, pos, af, g⟩ :: rest) env h K := fun a ha => by
  subst hb
  refine opI_of_write (it := mkItem kf ops ⟨none, .store t x y, ty, pos, af, g⟩) (evalG_ok ha hg) (wr_of hk) (fun w hw => ?_)
  obtain ⟨gb, off, s⟩ := ad
  simp only at hs hl hp hK
  subst hs
  have hw' := hw.perm hp
  have hh := hw'.heap_blk (g := gb) (t := tt) (cs := cs) (by simp)
  have := run_storeAt hT ht (g := gb) (off := off) hsz h1 hh (by simpa using hl)
  unfold Oper.wp
  simp only [mkItem, execOp, ha.eval hx, ha.eval hy, Sem.run_bind, this, Result.andThen_ok, Sem.run_pure, Oper.upon_skip]
  refine ⟨_, ?_, hK _ ha⟩
  have e : lay cs off v.cells.toList = (cs.toArray.toList.take off ++ v.cells.toList ++ cs.toArray.toList.drop (off + ti.size)) := by simp [lay, hsz]
  rw [← e]
  exact hw'.setRow_blk

/-- a store into a row of the call's own -/
theorem es_storeRow (hT : TabOK P T) {b : Bool} {ty pos af g} {t : TypeId} {ti : TI} {x y : Operand} {ad : Addr} {A : Option Addr} {n c k o : Nat} {v : Value} {tt : TypeId} {cs : List Value} (hg : evalG ops env g = some b) (hb : b = true)
    (hk : (kf ⟨none, .store t x y, ty, pos, af, g⟩).wr = true) (hx : evalE env x = some (.pointer (some ad))) (hy : evalE env y = some v) (ht : T.lookup t = some ti)
    (hp : h.Perm (.own A n c tt k cs :: h')) (had : ad = adr A o) (hsz : v.cells.size = ti.size) (h1 : v.cells.toList.all Value.oneCell' = true) (hl : o + ti.size ≤ n * k) (h0 : 0 < n)
    (hK : ES P W N kf ops rest env (.own A n c tt k (lay cs o v.cells.toList) :: h') K) : ES P W N kf ops (⟨none, .store t x y, ty, pos, af, g⟩ :: rest) env h K := fun a ha => by
  subst hb
  refine opI_of_write (it := mkItem kf ops ⟨none, .store t x y, ty, pos, af, g⟩) (evalG_ok ha hg) (wr_of hk) (fun w hw => ?_)
  have hw' := hw.perm hp
  have ho := hw'.holds (.own A n c tt k cs) (by simp)
  rcases ho.1.2 with ⟨_, hn⟩ | ⟨gb, cap, cur, hv, hbb, hgb, hnc, hcm, hcs, htk⟩
  · omega
  · injection hv with hA _ hc
    subst hA hc
    have had' : ad = ⟨gb, o, none⟩ := by rw [had]; simp [adr, add_blk]
    subst had'
    have hle : n * k ≤ cur.size := by rw [hcs]; exact Nat.mul_le_mul_right k hnc
    have := run_storeAt hT ht (g := gb) (off := o) hsz h1 hgb (by omega)
    unfold Oper.wp
    simp only [mkItem, execOp, ha.eval hx, ha.eval hy, Sem.run_bind, this, Result.andThen_ok, Sem.run_pure, Oper.upon_skip]
    refine ⟨_, ?_, hK _ ha⟩
    have hlen := ho.1.1
    have hvl : v.cells.toList.length = ti.size := by simpa using hsz
    have hcl : (cur.toList.take (n * k)).length = n * k := by simp; omega
    refine hw'.setRow_own hgb (n' := n) ?_ ?_ ?_ hnc ?_
    · simp only [List.length_append, List.length_take, List.length_drop, Array.length_toList, hvl]; omega
    · rw [← htk, lay, hvl]
      rw [List.take_take, List.take_append, List.take_append, List.length_append, List.length_take, Array.length_toList, hvl]
      rw [List.take_of_length_le (l := List.take o cur.toList) (by simp; omega), List.take_of_length_le (l := v.cells.toList) (by rw [hvl]; omega)]
      rw [Nat.min_eq_left (by omega : o ≤ cur.size), Nat.min_eq_left (by omega : o ≤ n * k)]
      congr 1
      rw [List.drop_take]
    · simp only [lay, List.length_append, List.length_take, List.length_drop, hvl, hlen]; omega
    · intro u hu
      simp only [lay, List.mem_append] at hu
      rcases hu with (hu | hu) | hu
      · exact ho.2 u (List.mem_of_mem_take hu)
      · exact List.all_eq_true.1 h1 u hu
      · exact ho.2 u (List.mem_of_mem_drop hu)

theorem mem0 {c : Chunk} {F : List Chunk} : c ∈ c :: F := List.mem_cons_self
theorem mem1 {a c : Chunk} {F : List Chunk} : c ∈ a :: c :: F := List.mem_cons_of_mem _ mem0
theorem mem2 {a b c : Chunk} {F : List Chunk} : c ∈ a :: b :: c :: F := List.mem_cons_of_mem _ mem1
theorem mem3 {a b d c : Chunk} {F : List Chunk} : c ∈ a :: b :: d :: c :: F := List.mem_cons_of_mem _ mem2
theorem mem4 {a b d e c : Chunk} {F : List Chunk} : c ∈ a :: b :: d :: e :: c :: F := List.mem_cons_of_mem _ mem3
theorem mem5 {a b d e f c : Chunk} {F : List Chunk} : c ∈ a :: b :: d :: e :: f :: c :: F := List.mem_cons_of_mem _ mem4
theorem sel0 {c : Chunk} {F : List Chunk} : (c :: F).Perm (c :: F) := List.Perm.refl _
theorem sel1 {a c : Chunk} {F : List Chunk} : (a :: c :: F).Perm (c :: a :: F) := List.Perm.swap _ _ _
theorem selS {a c : Chunk} {F G : List Chunk} (hp : F.Perm (c :: G)) : (a :: F).Perm (c :: a :: G) := (hp.cons a).trans (List.Perm.swap _ _ _)

/-! ### an element's address -/
theorem es_idx (hT : TabOK P T) {b : Bool} {d : Tmp} {ty pos af g} {t e : TypeId} {ti te : TI} {x ix : Operand} {A : Option Addr} {n c : Nat} {i : Int} {k : IntKind} (hg : evalG ops env g = some b) (hb : b = true) (hd : Nat.blt d N = true)
    (ht : T.lookup t = some ti) (htd : ti.desc = .slice e) (hte : T.lookup e = some te) (hx : evalE env x = some (.slice A n c)) (hi : evalE env ix = some (.int k i)) (h0 : 0 ≤ i) (h1 : i < n) (hA : A.isSome = true)
    (hK : ES P W N kf ops rest ((d, .pointer (some (adr A (i.toNat * te.size)))) :: env) h K) : ES P W N kf ops (⟨some d, .indexAddr t x ix, ty, pos, af, g⟩ :: rest) env h K :=
  es_run hg hb hd (fun a ha w => by
    have g1 := hT _ _ ht
    have g2 := hT _ _ hte
    have hu := g1.1
    rw [htd] at hu
    cases A with
    | none => simp at hA
    | some ad => simp [execOp, ha.eval hx, ha.eval hi, Instr.indexAt, asIntOf, run_underlying hu, h0, h1, g2.sz, adr]) hK

end
end Go.Sl
