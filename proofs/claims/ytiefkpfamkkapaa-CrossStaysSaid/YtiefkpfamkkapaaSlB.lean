/- Regions whose order is drawn: one walk serves every order, under a check that the kernel runs. Over any program; no condition of its own. -/
import Derived.Test.YtiefkpfamkkapaaSlA
set_option linter.unusedSimpArgs false
set_option linter.unusedVariables false
namespace Go.Sl
open Go Go.RowKit

inductive Kd where
  | pure | quiet | alloc | write | look | grow
  deriving DecidableEq

structure Item where
  kd : Kd
  keep : List Chunk
  o : Oper
  g : Option (Option Tmp × Bool)

def gOk (g : Option (Option Tmp × Bool)) (tmps : Array Value) : Bool :=
  match g with
  | none => true
  | some (t, b) => match t.bind (tmps[·]?) with
    | some (.bool x) => x == b
    | _ => false

def itemAt (kd : Nat → Kd) (kp : List Chunk) (ops : Array Oper) (i : Nat) : Option Item :=
  (ops[i]?).map fun o => ⟨kd i, kp, o, o.guard.map fun jb => ((ops[jb.1]?).bind (·.dst), jb.2)⟩

section
variable {P : Program} {W : World}

def opI (P : Program) (W : World) (it : Item) (K : Act → List Chunk → Prop) (a : Act) (h : List Chunk) : Prop :=
  if gOk it.g a.tmps = true then
    match it.kd with
    | .pure => ∃ v, (∀ w, (execOp a.eval it.o).run P w = .ok (.value v) w) ∧ K (a.put it.o.dst v) h
    | .quiet => ∃ v, (∀ h', (∀ c ∈ h, c ∈ h') → ∀ w, Rep W h' w → it.o.quietAt P a (Rep W h') w v) ∧ K (a.put it.o.dst v) h
    | .alloc => ∀ w, Rep W h w → it.o.wp P a w (fun a' w' => ∃ cs, Rep W (cs ++ h) w' ∧ K a' (cs ++ h)) (fun _ _ _ => False)
    | .write => ∀ w, Rep W h w → it.o.wp P a w (fun a' w' => ∃ h', Rep W h' w' ∧ K a' h') (fun _ _ _ => False)
    | .look => ∃ v, ((∀ w, (execOp a.eval it.o).run P w = .ok (.value v) w) ∨ ((∀ c ∈ it.keep, c ∈ h) ∧ ∀ h', (∀ c ∈ it.keep, c ∈ h') → ∀ w, Rep W h' w → it.o.quietAt P a (Rep W h') w v)) ∧ K (a.put it.o.dst v) h
    | .grow => ∀ w, Rep W h w → it.o.wp P a w (fun a' w' => ∃ h', (Rep W h' w' ∧ ((∀ c ∈ it.keep, c ∈ h) → ∀ c ∈ it.keep, c ∈ h')) ∧ K a' h') (fun _ _ _ => False)
  else K (a.put it.o.dst undef) h

theorem wp_mono2 {o : Oper} {a : Act} {w : World} {K K' : Act → World → Prop} {Q Q' : Exit → Act → World → Prop} (h : ∀ a w, K a w → K' a w) (hQ : ∀ e a w, Q e a w → Q' e a w)
    (hh : o.wp P a w K Q) : o.wp P a w K' Q' := by
  unfold Oper.wp at *
  generalize (execOp a.eval o).run P w = r at *
  cases r with
  | ok n w' =>
    cases n <;> simp only [Oper.upon] at hh ⊢ <;>
      first
        | exact h _ _ hh
        | exact Calls.mono hh (fun e w'' he => by cases e <;> first | exact h _ _ he | exact hQ _ _ _ he | exact (let ⟨a, w, q⟩ := he; ⟨a, w, hQ _ _ _ q⟩))
        | exact Rows.mono hh (fun _ _ he => h _ _ he)
  | halt x w' => cases x <;> simp only [Oper.upon] at hh ⊢ <;> first | exact hQ _ _ _ hh | exact hh

theorem opI_mono {it : Item} {K K' : Act → List Chunk → Prop} {a : Act} {h : List Chunk} (hK : ∀ a h, K a h → K' a h) (hh : opI P W it K a h) : opI P W it K' a h := by
  unfold opI at *
  split
  · rename_i hg
    simp only [hg, if_true] at hh
    split <;> rename_i hk <;> simp only [hk] at hh
    · exact let ⟨v, h1, h2⟩ := hh; ⟨v, h1, hK _ _ h2⟩
    · exact let ⟨v, h1, h2⟩ := hh; ⟨v, h1, hK _ _ h2⟩
    · exact fun w hw => wp_mono2 (fun a w' h2 => let ⟨cs, h3, h4⟩ := h2; ⟨cs, h3, hK _ _ h4⟩) (fun _ _ _ h => h) (hh w hw)
    · exact fun w hw => wp_mono2 (fun a w' h2 => let ⟨cs, h3, h4⟩ := h2; ⟨cs, h3, hK _ _ h4⟩) (fun _ _ _ h => h) (hh w hw)
    · exact let ⟨v, h1, h2⟩ := hh; ⟨v, h1, hK _ _ h2⟩
    · exact fun w hw => wp_mono2 (fun a w' h2 => let ⟨cs, h3, h4⟩ := h2; ⟨cs, h3, hK _ _ h4⟩) (fun _ _ _ h => h) (hh w hw)
  · rename_i hg
    simp only [hg] at hh
    exact hK _ _ hh

theorem gok_eq {kd : Nat → Kd} {kp : List Chunk} {ops : Array Oper} {i : Nat} {it : Item} (hi : itemAt kd kp ops i = some it) (tmps : Array Value) :
    gOk it.g tmps = Region.wanted it.o (yielded ops tmps) := by
  unfold itemAt at hi
  cases ho : ops[i]? with
  | none => simp [ho] at hi
  | some o =>
    simp only [ho, Option.map_some, Option.some.injEq] at hi
    subst hi
    simp only [gOk, Region.wanted]
    cases o.guard with
    | none => rfl
    | some jb =>
      obtain ⟨j, b⟩ := jb
      simp only [Option.map_some, yielded]
      split <;> rename_i h1
      · simp only [h1]
        rename_i x
        cases x <;> cases b <;> rfl
      · split
        · rename_i h2; exact absurd h2 (h1 _)
        · rfl

theorem item_op {kd : Nat → Kd} {kp : List Chunk} {ops : Array Oper} {i : Nat} {it : Item} (hi : itemAt kd kp ops i = some it) : ops[i]? = some it.o ∧ it.kd = kd i := by
  unfold itemAt at hi
  cases ho : ops[i]? with
  | none => simp [ho] at hi
  | some o => simp only [ho, Option.map_some, Option.some.injEq] at hi; subst hi; exact ⟨rfl, rfl⟩

theorem item_keep {kd : Nat → Kd} {kp : List Chunk} {ops : Array Oper} {i : Nat} {it : Item} (hi : itemAt kd kp ops i = some it) : it.keep = kp := by
  unfold itemAt at hi
  cases ho : ops[i]? with
  | none => simp [ho] at hi
  | some o => simp only [ho, Option.map_some, Option.some.injEq] at hi; subst hi; rfl

/-- one operation, in the world -/
theorem opI_wp {kd : Nat → Kd} {kp : List Chunk} {ops : Array Oper} {i : Nat} {it : Item} {Q : Exit → Act → World → Prop} {K : Act → List Chunk → Prop} {a : Act} {h : List Chunk} {w : World}
    (hi : itemAt kd kp ops i = some it) (hw : Rep W h w) (hh : opI P W it K a h) : wpOp P ops Q i (fun a' w' => ∃ h', Rep W h' w' ∧ K a' h') a w := by
  obtain ⟨ho, _⟩ := item_op hi
  unfold wpOp opI at *
  rw [gok_eq hi] at hh
  simp only [ho]
  split
  · rename_i hg
    simp only [hg, if_true] at hh
    refine .inl ?_
    split at hh <;> rename_i hk
    · obtain ⟨v, h1, h2⟩ := hh
      unfold Oper.wp; rw [h1 w]; exact ⟨h, hw, h2⟩
    · obtain ⟨v, h1, h2⟩ := hh
      have h3 := h1 h (fun _ hc => hc) w hw
      unfold Oper.quietAt at h3
      unfold Oper.wp
      generalize (execOp a.eval it.o).run P w = r at *
      cases r with
      | ok n w' =>
        cases n <;> simp only [Oper.quietUpon] at h3 <;> simp only [Oper.upon]
        · obtain ⟨rfl, rfl⟩ := h3; exact ⟨h, hw, h2⟩
        · obtain ⟨rfl, rfl⟩ := h3; exact ⟨h, hw, h2⟩
        · obtain ⟨rfl, hc⟩ := h3
          exact hc.mono fun e w'' ⟨he, hw''⟩ => by subst he; exact ⟨h, hw'', h2⟩
      | halt x w' => simp only [Oper.quietUpon] at h3
    · exact wp_mono2 (fun a w' h2 => let ⟨cs, h3, h4⟩ := h2; ⟨cs ++ h, h3, h4⟩) (fun _ _ _ h => h.elim) (hh w hw)
    · exact wp_mono2 (fun a w' h2 => h2) (fun _ _ _ h => h.elim) (hh w hw)
    · obtain ⟨v, h1 | ⟨hk, h1⟩, h2⟩ := hh
      · unfold Oper.wp; rw [h1 w]; exact ⟨h, hw, h2⟩
      · have h3 := h1 h hk w hw
        unfold Oper.quietAt at h3
        unfold Oper.wp
        generalize (execOp a.eval it.o).run P w = r at *
        cases r with
        | ok n w' =>
          cases n <;> simp only [Oper.quietUpon] at h3 <;> simp only [Oper.upon]
          · obtain ⟨rfl, rfl⟩ := h3; exact ⟨h, hw, h2⟩
          · obtain ⟨rfl, rfl⟩ := h3; exact ⟨h, hw, h2⟩
          · obtain ⟨rfl, hc⟩ := h3
            exact hc.mono fun e w'' ⟨he, hw''⟩ => by subst he; exact ⟨h, hw'', h2⟩
        | halt x w' => simp only [Oper.quietUpon] at h3
    · exact wp_mono2 (fun a w' h2 => let ⟨h', h3, h4⟩ := h2; ⟨h', h3.1, h4⟩) (fun _ _ _ h => h.elim) (hh w hw)
  · rename_i hg
    simp only [hg] at hh
    exact ⟨h, hw, hh⟩

/-- the operations in the order of a list -/
def seqS (P : Program) (W : World) (Q : Act → List Chunk → Prop) : List Item → Act → List Chunk → Prop
  | [], a, h => Q a h
  | it :: rest, a, h => opI P W it (seqS P W Q rest) a h

theorem seqS_ops {kd : Nat → Kd} {kp : List Chunk} {ops : Array Oper} {Q : Act → List Chunk → Prop} {Q' : Exit → Act → World → Prop} (hQ : ∀ a h w, Rep W h w → Q a h → Q' .normal a w) :
    ∀ (l : List Nat) (a : Act) (h : List Chunk) (w : World), (∀ i ∈ l, i < ops.size) → Rep W h w → seqS P W Q (l.filterMap (itemAt kd kp ops)) a h → wpOps P ops Q' l a w
  | [], a, h, w, _, hw, hh => by simp only [wpOps]; exact hQ a h w hw hh
  | i :: l, a, h, w, hl, hw, hh => by
    rw [wpOps_cons]
    have hi : itemAt kd kp ops i = some ⟨kd i, kp, ops[i]'(hl i (by simp)), (ops[i]'(hl i (by simp))).guard.map fun jb => ((ops[jb.1]?).bind (·.dst), jb.2)⟩ := by
      unfold itemAt; rw [Array.getElem?_eq_getElem (hl i (by simp))]; rfl
    rw [List.filterMap_cons, hi] at hh
    exact wpOp_mono (fun a' w' ⟨h', hw', hk⟩ => seqS_ops hQ l a' h' w' (fun j hj => hl j (by simp [hj])) hw' hk) (opI_wp hi hw hh)

def lexItems (ops : Array Oper) (kd : Nat → Kd) (kp : List Chunk) : List Item := (List.range ops.size).filterMap (itemAt kd kp ops)

theorem region_seq {kd : Nat → Kd} {kp : List Chunk} {ops : Array Oper} {Q : Act → List Chunk → Prop} {Q' : Exit → Act → World → Prop} (hQ : ∀ a h w, Rep W h w → Q a h → Q' .normal a w) {id : Nat} {a : Act} {h : List Chunk} {w : World}
    (hw : Rep W h w) (hh : seqS P W Q (lexItems ops kd kp) a h) : (Code.region id ops false).wp P Q' a w :=
  wp_region (seqS_ops hQ _ a h w (fun i hi => by simpa using hi) hw hh)

/-- whatever order is picked from here on -/
def anyS (P : Program) (W : World) (kd : Nat → Kd) (kp : List Chunk) (ops : Array Oper) (Q : Act → List Chunk → Prop) : Nat → Array Bool → Act → List Chunk → Prop
  | 0, listed, a, h => Region.ready .any ops listed = [] ∧ Q a h
  | n + 1, listed, a, h => (Region.ready .any ops listed = [] → Q a h) ∧
      ∀ i ∈ Region.ready .any ops listed, ∀ it, itemAt kd kp ops i = some it → opI P W it (anyS P W kd kp ops Q n (listed.setIfInBounds i true)) a h

theorem ready_item {kd : Nat → Kd} {kp : List Chunk} {ops : Array Oper} {listed : Array Bool} {i : Nat} (h : i ∈ Region.ready .any ops listed) : ∃ it, itemAt kd kp ops i = some it := by
  obtain ⟨_, o, ho, _⟩ := mem_ready.1 h
  exact ⟨_, by unfold itemAt; rw [ho]; rfl⟩

theorem anyS_sound {kd : Nat → Kd} {kp : List Chunk} {ops : Array Oper} {Q : Act → List Chunk → Prop} {Q' : Exit → Act → World → Prop} (hQ : ∀ a h w, Rep W h w → Q a h → Q' .normal a w) :
    ∀ (n : Nat) (listed : Array Bool) (a : Act) (h : List Chunk) (w : World), Rep W h w → anyS P W kd kp ops Q n listed a h → wpAny P .any ops Q' n listed a w
  | 0, _, a, h, w, hw, hh => ⟨hh.1, hQ a h w hw hh.2⟩
  | n + 1, _, a, h, w, hw, hh => ⟨fun h0 => hQ a h w hw (hh.1 h0), fun i hi => by
      obtain ⟨it, hit⟩ := ready_item (kd := kd) (kp := kp) hi
      exact wpOp_mono (fun a' w' ⟨h', hw', hk⟩ => anyS_sound hQ n _ a' h' w' hw' hk) (opI_wp hit hw (hh.2 i hi it hit))⟩

def YieldsI (P : Program) (W : World) (it : Item) (v : Value) (a : Act) (h : List Chunk) : Prop :=
  (gOk it.g a.tmps = true ∧ ((it.kd = .pure ∧ ∀ w, (execOp a.eval it.o).run P w = .ok (.value v) w) ∨
    (it.kd = .quiet ∧ ∀ h', (∀ c ∈ h, c ∈ h') → ∀ w, Rep W h' w → it.o.quietAt P a (Rep W h') w v) ∨
    (it.kd = .look ∧ ((∀ w, (execOp a.eval it.o).run P w = .ok (.value v) w) ∨ ((∀ c ∈ it.keep, c ∈ h) ∧ ∀ h', (∀ c ∈ it.keep, c ∈ h') → ∀ w, Rep W h' w → it.o.quietAt P a (Rep W h') w v))))) ∨
  (gOk it.g a.tmps = false ∧ v = undef)

theorem YieldsI.opI {it : Item} {v : Value} {a : Act} {h : List Chunk} {K : Act → List Chunk → Prop} (hy : YieldsI P W it v a h) (hk : K (a.put it.o.dst v) h) : opI P W it K a h := by
  unfold Sl.opI
  rcases hy with ⟨hg, ⟨hkd, hv⟩ | ⟨hkd, hv⟩ | ⟨hkd, hv⟩⟩ | ⟨hg, rfl⟩
  · simp only [hg, hkd, if_true]; exact ⟨v, hv, hk⟩
  · simp only [hg, hkd, if_true]; exact ⟨v, hv, hk⟩
  · simp only [hg, hkd, if_true]; exact ⟨v, hv, hk⟩
  · simp only [hg, Bool.false_eq_true, if_false]; exact hk

theorem yieldsI_of {it : Item} {a : Act} {h : List Chunk} {K : Act → List Chunk → Prop} (hkd : it.kd = .pure ∨ it.kd = .quiet ∨ it.kd = .look) (hh : opI P W it K a h) : ∃ v, YieldsI P W it v a h ∧ K (a.put it.o.dst v) h := by
  unfold opI at hh
  by_cases hg : gOk it.g a.tmps = true
  · simp only [hg, if_true] at hh
    rcases hkd with hkd | hkd | hkd <;> simp only [hkd] at hh <;> obtain ⟨v, h1, h2⟩ := hh
    · exact ⟨v, .inl ⟨hg, .inl ⟨hkd, h1⟩⟩, h2⟩
    · exact ⟨v, .inl ⟨hg, .inr (.inl ⟨hkd, h1⟩)⟩, h2⟩
    · exact ⟨v, .inl ⟨hg, .inr (.inr ⟨hkd, h1⟩)⟩, h2⟩
  · simp only [hg] at hh
    exact ⟨undef, .inr ⟨by simpa using hg, rfl⟩, hh⟩

/-- what 'it' looks at is the same in both -/
def Same (it : Item) (a a' : Act) : Prop := execOp a'.eval it.o = execOp a.eval it.o ∧ gOk it.g a'.tmps = gOk it.g a.tmps

theorem YieldsI.same {it : Item} {v : Value} {a a' : Act} {h h' : List Chunk} (hy : YieldsI P W it v a h) (hs : Same it a a') (hh : it.kd = .pure ∨ (∀ c ∈ h, c ∈ h') ∨ (it.kd = .look ∧ ((∀ c ∈ it.keep, c ∈ h) → ∀ c ∈ it.keep, c ∈ h'))) : YieldsI P W it v a' h' := by
  unfold YieldsI at *
  rw [hs.2]
  rcases hy with ⟨hg, ⟨hkd, hv⟩ | ⟨hkd, hv⟩ | ⟨hkd, hv⟩⟩ | hy
  · exact .inl ⟨hg, .inl ⟨hkd, fun w => by rw [hs.1]; exact hv w⟩⟩
  · refine .inl ⟨hg, .inr (.inl ⟨hkd, fun h2 hsub w hw => ?_⟩)⟩
    have hh2 : ∀ c ∈ h, c ∈ h' := by
      rcases hh with e | e | e
      · rw [hkd] at e; cases e
      · exact e
      · rw [hkd] at e; cases e.1
    have := hv h2 (fun c hc => hsub c (hh2 c hc)) w hw
    unfold Oper.quietAt at *
    rwa [hs.1]
  · refine .inl ⟨hg, .inr (.inr ⟨hkd, ?_⟩)⟩
    rcases hv with hv | ⟨hk, hv⟩
    · exact .inl fun w => by rw [hs.1]; exact hv w
    · refine .inr ⟨?_, fun h2 hsub w hw => ?_⟩
      · rcases hh with e | e | e
        · rw [hkd] at e; cases e
        · exact fun c hc => e c (hk c hc)
        · exact e.2 hk
      · have := hv h2 hsub w hw
        unfold Oper.quietAt at *
        rwa [hs.1]
  · exact .inr hy

variable {kd : Nat → Kd} {kp : List Chunk} {ops : Array Oper}

theorem wp_put {i j : Nat} {iti itj : Item} (hi : itemAt kd kp ops i = some iti) (hj : itemAt kd kp ops j = some itj) (hap : iti.o.apart ops itj.o = true)
    (hsel : ∀ (j : Nat) (o : Oper) cs b, ops[j]? = some o → o.op ≠ .select cs b) {v : Value} {a : Act} {w : World} {K : Act → World → Prop}
    (h : itj.o.wp P (a.put iti.o.dst v) w K (fun _ _ _ => False)) :
    itj.o.wp P a w (fun a' w' => Same iti a a' ∧ K (a'.put iti.o.dst v) w') (fun _ _ _ => False) := by
  obtain ⟨h1, h2, h3⟩ := Oper.apart_spec hap
  obtain ⟨hoi, _⟩ := item_op hi
  obtain ⟨hoj, _⟩ := item_op hj
  have same : ∀ (b : Act), b.tmps = a.tmps → ∀ u, Same iti a (b.put itj.o.dst u) := fun b hb u => by
    have e1 : b.eval = a.eval := by funext x; cases x <;> simp [Act.eval, hb]
    refine ⟨?_, ?_⟩
    · rw [execOp_put (ops := ops) iti.o (fun cs b => hsel i _ cs b hoi) b itj.o.dst u h3, e1]
    · rw [gok_eq hi, gok_eq hi, wanted_put (ops := ops) iti.o b itj.o.dst u h3, hb]
  unfold Oper.wp at *
  rw [execOp_put (ops := ops) itj.o (fun cs b => hsel j _ cs b hoj) a iti.o.dst v h1] at h
  generalize (execOp a.eval itj.o).run P w = r at *
  cases r with
  | ok n w' =>
    cases n <;> simp only [Oper.upon] at h ⊢
    case value u => exact ⟨same a rfl u, by rw [← Act.put_comm a v u h2]; exact h⟩
    case skip => exact ⟨same a rfl _, by rw [← Act.put_comm a v undef h2]; exact h⟩
    case defer d =>
      refine ⟨same { a with defers := d :: a.defers } rfl _, ?_⟩
      rw [← Act.put_comm _ v undef h2, ← Act.put_defers]
      exact h
    case enter f args =>
      refine Calls.mono h fun e w'' he => ?_
      cases e with
      | returned u => exact ⟨same a rfl u, by rw [← Act.put_comm a v u h2]; exact he⟩
      | panicked c => exact he
      | outgrown => exact he
    case row row args => exact Rows.mono h fun u w'' he => ⟨same a rfl u, by rw [← Act.put_comm a v u h2]; exact he⟩
  | halt x w' =>
    cases x <;> simp only [Oper.upon] at h ⊢

theorem opI_put {i j : Nat} {iti itj : Item} (hi : itemAt kd kp ops i = some iti) (hj : itemAt kd kp ops j = some itj) (hap : iti.o.apart ops itj.o = true)
    (hsel : ∀ (j : Nat) (o : Oper) cs b, ops[j]? = some o → o.op ≠ .select cs b) (hkk : iti.kd = .pure ∨ (itj.kd ≠ .write ∧ (itj.kd = .grow → iti.kd = .look)))
    {v : Value} {a : Act} {h : List Chunk} {K : Act → List Chunk → Prop} (hy : YieldsI P W iti v a h) (hh : opI P W itj K (a.put iti.o.dst v) h) :
    opI P W itj (fun a' h' => YieldsI P W iti v a' h' ∧ K (a'.put iti.o.dst v) h') a h := by
  obtain ⟨h1, h2, h3⟩ := Oper.apart_spec hap
  obtain ⟨hoi, _⟩ := item_op hi
  obtain ⟨hoj, _⟩ := item_op hj
  have same : ∀ u, Same iti a (a.put itj.o.dst u) := fun u =>
    ⟨execOp_put (ops := ops) iti.o (fun cs b => hsel i _ cs b hoi) a itj.o.dst u h3, by rw [gok_eq hi, gok_eq hi, wanted_put (ops := ops) iti.o a itj.o.dst u h3]⟩
  have hex : execOp (a.put iti.o.dst v).eval itj.o = execOp a.eval itj.o := execOp_put (ops := ops) itj.o (fun cs b => hsel j _ cs b hoj) a iti.o.dst v h1
  have hgk : gOk itj.g (a.put iti.o.dst v).tmps = gOk itj.g a.tmps := by rw [gok_eq hj, gok_eq hj, wanted_put (ops := ops) itj.o a iti.o.dst v h1]
  unfold opI at *
  rw [hgk] at hh
  split
  · rename_i hg
    simp only [hg, if_true] at hh
    split <;> rename_i hk <;> simp only [hk] at hh
    · obtain ⟨u, hu, hn⟩ := hh
      exact ⟨u, fun w => by rw [← hex]; exact hu w, hy.same (same u) (.inr (.inl fun _ hc => hc)), by rw [← Act.put_comm a v u h2]; exact hn⟩
    · obtain ⟨u, hu, hn⟩ := hh
      refine ⟨u, fun h' hs w hw => ?_, hy.same (same u) (.inr (.inl fun _ hc => hc)), by rw [← Act.put_comm a v u h2]; exact hn⟩
      have := hu h' hs w hw
      unfold Oper.quietAt at *
      rwa [hex] at this
    · exact fun w hw => wp_mono2 (fun a' w' ⟨hsm, cs, h4, h5⟩ => ⟨cs, h4, hy.same hsm (.inr (.inl fun _ hc => List.mem_append_right _ hc)), h5⟩) (fun _ _ _ h => h) (wp_put hi hj hap hsel (hh w hw))
    · have hp := hkk.resolve_right (fun hne => hne.1 hk)
      exact fun w hw => wp_mono2 (fun a' w' ⟨hsm, cs, h4, h5⟩ => ⟨cs, h4, hy.same hsm (.inl hp), h5⟩) (fun _ _ _ h => h) (wp_put hi hj hap hsel (hh w hw))
    · obtain ⟨u, hu, hn⟩ := hh
      refine ⟨u, ?_, hy.same (same u) (.inr (.inl fun _ hc => hc)), by rw [← Act.put_comm a v u h2]; exact hn⟩
      rcases hu with hu | ⟨hu1, hu2⟩
      · exact .inl fun w => by rw [← hex]; exact hu w
      · refine .inr ⟨hu1, fun h' hs w hw => ?_⟩
        have := hu2 h' hs w hw
        unfold Oper.quietAt at *
        rwa [hex] at this
    · have hke : iti.keep = itj.keep := by rw [item_keep hi, item_keep hj]
      refine fun w hw => wp_mono2 (fun a' w' ⟨hsm, h', h4, h5⟩ => ⟨h', h4, hy.same hsm ?_, h5⟩) (fun _ _ _ h => h) (wp_put hi hj hap hsel (hh w hw))
      rcases hkk with hp | ⟨_, hp⟩
      · exact .inl hp
      · exact .inr (.inr ⟨hp hk, by rw [hke]; exact h4.2⟩)
  · rename_i hg
    simp only [hg] at hh
    exact ⟨hy.same (same _) (.inr (.inl fun _ hc => hc)), by rw [← Act.put_comm a v undef h2]; exact hh⟩

theorem anyS_first {Q : Act → List Chunk → Prop} {i : Nat} {iti : Item} {v : Value} (hi : itemAt kd kp ops i = some iti) (hsel : ∀ (j : Nat) (o : Oper) cs b, ops[j]? = some o → o.op ≠ .select cs b)
    (D : List Nat) (hD : ∀ j ∈ D, ∀ oj, ops[j]? = some oj → ∃ e ∈ oj.after, Region.binds .any e = true ∧ (e.on = i ∨ e.on ∈ D)) :
    ∀ (fuel : Nat) (listed : Array Bool) (a : Act) (h : List Chunk),
      (∀ j oj, ops[j]? = some oj → j ≠ i → listed.getD j true = false → j ∉ D → iti.o.apart ops oj = true ∧ (iti.kd = .pure ∨ (kd j ≠ .write ∧ (kd j = .grow → iti.kd = .look)))) →
      (∀ j ∈ D, listed.getD j true = false) → i ∈ Region.ready .any ops listed → YieldsI P W iti v a h →
      anyS P W kd kp ops Q fuel (listed.setIfInBounds i true) (a.put iti.o.dst v) h → anyS P W kd kp ops Q (fuel + 1) listed a h := by
  intro fuel
  induction fuel with
  | zero =>
    intro listed a h _ _ hr hy H
    refine ⟨fun h => (by rw [h] at hr; cases hr), fun j hj itj hitj => ?_⟩
    by_cases hji : j = i
    · subst hji
      obtain rfl : iti = itj := by rw [hi] at hitj; exact Option.some.inj hitj
      exact hy.opI H
    · have := ready_mono hj hji
      rw [H.1] at this
      cases this
  | succ fuel ih =>
    intro listed a h hfree hDl hr hy H
    refine ⟨fun h => (by rw [h] at hr; cases hr), fun j hj itj hitj => ?_⟩
    by_cases hji : j = i
    · subst hji
      obtain rfl : iti = itj := by rw [hi] at hitj; exact Option.some.inj hitj
      exact hy.opI H
    · have h1 := H.2 j (ready_mono hj hji) itj hitj
      obtain ⟨hjun, oj, hoj, hall⟩ := mem_ready.1 hj
      have hoj' : itj.o = oj := by have := (item_op hitj).1; rw [hoj] at this; exact (Option.some.inj this).symm
      have hun : ∀ k, listed.getD k true = false → listed.getD k false = true → False := fun k h0 h1 => by
        rcases Nat.lt_or_ge k listed.size with h' | h'
        · simp [h'] at h0 h1; rw [h0] at h1; cases h1
        · simp [Array.getElem?_eq_none h'] at h1
      have hjD : j ∉ D := fun hjD => by
        obtain ⟨e, he, hb, hon⟩ := hD j hjD oj hoj
        have hl := hall e he hb
        rcases hon with hon | hon
        · rw [hon] at hl; exact hun i (mem_ready.1 hr).1 hl
        · exact hun _ (hDl _ hon) hl
      have hap := hfree j oj hoj hji hjun hjD
      have hkj : itj.kd = kd j := (item_op hitj).2
      have h2 := opI_put hi hitj (by rw [hoj']; exact hap.1) hsel (by rw [hkj]; exact hap.2) hy h1
      refine opI_mono (fun a' h' h3 => ih (listed.setIfInBounds j true) a' h' ?_ ?_ (ready_mono hr (Ne.symm hji)) h3.1 ?_) h2
      · intro k ok hk hki hunk hkD
        refine hfree k ok hk hki ?_ hkD
        by_cases hjk : j = k
        · subst hjk; exact hjun
        · rw [getD_set_ne true hjk] at hunk; exact hunk
      · intro k hkD
        have hjk : j ≠ k := fun e => hjD (e ▸ hkD)
        rw [getD_set_ne true hjk]
        exact hDl k hkD
      · rw [Array.setIfInBounds_comm _ _ hji]
        exact h3.2

/-! ### the plan: an order that serves for all -/
def desc (ops : Array Oper) (bef : Array Nat) (listed : Array Bool) (i : Nat) : List Nat :=
  (List.range ops.size).filter fun j => !listed.getD j true && (bef.getD j 0).testBit i

def takeOK (kd : Nat → Kd) (ops : Array Oper) (listed : Array Bool) (i : Nat) (D : List Nat) : Bool :=
  (Region.ready .any ops listed).contains i && (kd i == .pure || (kd i == .quiet || kd i == .look)) &&
  ((List.range ops.size).all fun j => j == i || listed.getD j true || D.contains j || (match ops[j]?, ops[i]? with
    | some oj, some oi => oi.apart ops oj && (kd i == .pure || (kd j != .write && (kd j != .grow || kd i == .look)))
    | _, _ => false)) &&
  (D.all fun j => !listed.getD j true && (match ops[j]? with
    | some oj => oj.after.any fun e => Region.binds .any e && (e.on == i || D.contains e.on)
    | none => true))

def planOK (kd : Nat → Kd) (ops : Array Oper) (bef : Array Nat) : List Nat → Array Bool → Bool
  | [], listed => Region.ready .any ops listed == []
  | i :: rest, listed => (Region.ready .any ops listed == [i] || takeOK kd ops listed i (desc ops bef listed i)) && planOK kd ops bef rest (listed.setIfInBounds i true)

theorem plan_sound {Q : Act → List Chunk → Prop} {bef : Array Nat} (hs : Region.noSelect ops = true) : ∀ (l : List Nat) (listed : Array Bool) (a : Act) (h : List Chunk), planOK kd ops bef l listed = true →
    seqS P W Q (l.filterMap (itemAt kd kp ops)) a h → anyS P W kd kp ops Q l.length listed a h
  | [], listed, a, h, hp, hh => ⟨by simpa [planOK] using hp, hh⟩
  | i :: l, listed, a, h, hp, hh => by
    simp only [planOK, Bool.and_eq_true, Bool.or_eq_true, beq_iff_eq] at hp
    obtain ⟨hp1, hp2⟩ := hp
    have hmem : i ∈ Region.ready .any ops listed := by
      rcases hp1 with h1 | h1
      · rw [h1]; simp
      · simp only [takeOK, Bool.and_eq_true] at h1; simpa using h1.1.1.1
    obtain ⟨it, hit⟩ := ready_item (kd := kd) (kp := kp) hmem
    rw [List.filterMap_cons, hit] at hh
    rcases hp1 with h1 | h1
    · refine ⟨fun h0 => (by rw [h0] at h1; cases h1), fun j hj itj hitj => ?_⟩
      rw [h1] at hj
      obtain rfl : j = i := by simpa using hj
      obtain rfl : it = itj := by rw [hit] at hitj; exact Option.some.inj hitj
      exact opI_mono (fun a' h' hk => plan_sound hs l _ a' h' hp2 hk) hh
    · simp only [takeOK, Bool.and_eq_true, Bool.or_eq_true, beq_iff_eq, List.all_eq_true, List.mem_range] at h1
      obtain ⟨⟨⟨hc, hk⟩, hall⟩, hD⟩ := h1
      obtain ⟨hoi, hki⟩ := item_op hit
      obtain ⟨v, hy, hK⟩ := yieldsI_of (by rw [hki]; exact hk) hh
      refine anyS_first hit (Region.noSelect_spec hs) (desc ops bef listed i) ?_ l.length listed a h ?_ ?_ hmem hy (plan_sound hs l _ _ _ hp2 hK)
      · intro j hjD oj hoj
        have h2 := (hD j hjD).2
        simp only [hoj] at h2
        obtain ⟨e, he, hb⟩ := Array.any_eq_true'.1 h2
        simp only [Bool.and_eq_true, Bool.or_eq_true, beq_iff_eq, List.contains_iff_mem] at hb
        exact ⟨e, he, hb.1, hb.2⟩
      · intro j oj hoj hji hun hjD
        have h2 := hall j (Array.getElem?_eq_some_iff.1 hoj).1
        simp only [hoj, hoi, hun, hji, false_or, Bool.false_eq_true, List.contains_iff_mem, hjD, Bool.and_eq_true, Bool.or_eq_true, beq_iff_eq, bne_iff_ne] at h2
        refine ⟨h2.1, ?_⟩
        rw [hki]
        rcases h2.2 with e | ⟨e1, e2⟩
        · exact .inl e
        · exact .inr ⟨e1, fun e3 => e2.resolve_left (fun e4 => e4 e3)⟩
      · intro j hjD
        simpa using (hD j hjD).1

/-- plans that part where several makings may come first -/
inductive Plan where
  | nil
  | step (i : Nat) (p : Plan)
  | alt (p q : Plan)

def Plan.heads : Plan → List Nat
  | .nil => []
  | .step i _ => [i]
  | .alt p q => p.heads ++ q.heads

def Plan.ok (kd : Nat → Kd) (ops : Array Oper) (bef : Array Nat) : Bool → Plan → Array Bool → Bool
  | false, .nil, listed => Region.ready .any ops listed == []
  | true, .nil, _ => false
  | false, .step i p, listed => (Region.ready .any ops listed == [i] || takeOK kd ops listed i (desc ops bef listed i)) && Plan.ok kd ops bef false p (listed.setIfInBounds i true)
  | true, .step i p, listed => (Region.ready .any ops listed).contains i && Plan.ok kd ops bef false p (listed.setIfInBounds i true)
  | false, .alt p q, listed => (Region.ready .any ops listed).all (fun i => (p.heads ++ q.heads).contains i) && (Plan.ok kd ops bef true p listed && Plan.ok kd ops bef true q listed) && !(Region.ready .any ops listed == [])
  | true, .alt p q, listed => Plan.ok kd ops bef true p listed && Plan.ok kd ops bef true q listed

def Plan.len : Plan → Nat
  | .nil => 0
  | .step _ p => p.len + 1
  | .alt p _ => p.len

def Plan.even : Plan → Bool
  | .nil => true
  | .step _ p => p.even
  | .alt p q => p.even && q.even && p.len == q.len

def seqP (P : Program) (W : World) (kd : Nat → Kd) (kp : List Chunk) (ops : Array Oper) (Q : Act → List Chunk → Prop) : Plan → Act → List Chunk → Prop
  | .nil, a, h => Q a h
  | .step i p, a, h => ∀ it, itemAt kd kp ops i = some it → opI P W it (seqP P W kd kp ops Q p) a h
  | .alt p q, a, h => seqP P W kd kp ops Q p a h ∧ seqP P W kd kp ops Q q a h

theorem branch_head {Q : Act → List Chunk → Prop} {bef : Array Nat} {i : Nat} : ∀ (p : Plan) (listed : Array Bool) (a : Act) (h : List Chunk), Plan.ok kd ops bef true p listed = true → p.even = true → i ∈ p.heads → seqP P W kd kp ops Q p a h →
    ∃ p', Plan.ok kd ops bef false p' (listed.setIfInBounds i true) = true ∧ p'.even = true ∧ p'.len + 1 = p.len ∧ ∀ it, itemAt kd kp ops i = some it → opI P W it (seqP P W kd kp ops Q p') a h
  | .nil, _, _, _, _, _, hi, _ => by simp [Plan.heads] at hi
  | .step j p, listed, a, h, hok, he, hi, hs => by
    simp only [Plan.heads, List.mem_singleton] at hi
    subst hi
    simp only [Plan.ok, Bool.and_eq_true] at hok
    exact ⟨p, hok.2, he, rfl, hs⟩
  | .alt p q, listed, a, h, hok, he, hi, hs => by
    simp only [Plan.ok, Bool.and_eq_true] at hok
    simp only [Plan.even, Bool.and_eq_true, beq_iff_eq] at he
    simp only [Plan.heads, List.mem_append] at hi
    rcases hi with hi | hi
    · obtain ⟨p', h1, h2, h3, h4⟩ := branch_head p listed a h hok.1 he.1.1 hi hs.1
      exact ⟨p', h1, h2, h3, h4⟩
    · obtain ⟨p', h1, h2, h3, h4⟩ := branch_head q listed a h hok.2 he.1.2 hi hs.2
      exact ⟨p', h1, h2, by simp only [Plan.len]; omega, h4⟩

theorem tree_sound {Q : Act → List Chunk → Prop} {bef : Array Nat} (hs : Region.noSelect ops = true) : ∀ (n : Nat) (p : Plan) (listed : Array Bool) (a : Act) (h : List Chunk), p.len = n → Plan.ok kd ops bef false p listed = true → p.even = true →
    seqP P W kd kp ops Q p a h → anyS P W kd kp ops Q n listed a h
  | n, .nil, listed, a, h, hn, hp, _, hh => by
    simp only [Plan.len] at hn
    subst hn
    exact ⟨by simpa [Plan.ok] using hp, hh⟩
  | 0, .step i p, listed, a, h, hn, _, _, _ => by simp [Plan.len] at hn
  | n + 1, .step i p, listed, a, h, hn, hp, he, hh => by
    simp only [Plan.len] at hn
    simp only [Plan.ok, Bool.and_eq_true, Bool.or_eq_true, beq_iff_eq] at hp
    obtain ⟨hp1, hp2⟩ := hp
    have hmem : i ∈ Region.ready .any ops listed := by
      rcases hp1 with h1 | h1
      · rw [h1]; simp
      · simp only [takeOK, Bool.and_eq_true] at h1; simpa using h1.1.1.1
    obtain ⟨it, hit⟩ := ready_item (kd := kd) (kp := kp) hmem
    have hh1 := hh it hit
    rcases hp1 with h1 | h1
    · refine ⟨fun h0 => (by rw [h0] at h1; cases h1), fun j hj itj hitj => ?_⟩
      rw [h1] at hj
      obtain rfl : j = i := by simpa using hj
      obtain rfl : it = itj := by rw [hit] at hitj; exact Option.some.inj hitj
      exact opI_mono (fun a' h' hk => tree_sound hs n p _ a' h' (by omega) hp2 he hk) hh1
    · simp only [takeOK, Bool.and_eq_true, Bool.or_eq_true, beq_iff_eq, List.all_eq_true, List.mem_range] at h1
      obtain ⟨⟨⟨hc, hk⟩, hall⟩, hD⟩ := h1
      obtain ⟨hoi, hki⟩ := item_op hit
      obtain ⟨v, hy, hK⟩ := yieldsI_of (by rw [hki]; exact hk) hh1
      refine anyS_first hit (Region.noSelect_spec hs) (desc ops bef listed i) ?_ n listed a h ?_ ?_ hmem hy (tree_sound hs n p _ _ _ (by omega) hp2 he hK)
      · intro j hjD oj hoj
        have h2 := (hD j hjD).2
        simp only [hoj] at h2
        obtain ⟨e, he, hb⟩ := Array.any_eq_true'.1 h2
        simp only [Bool.and_eq_true, Bool.or_eq_true, beq_iff_eq, List.contains_iff_mem] at hb
        exact ⟨e, he, hb.1, hb.2⟩
      · intro j oj hoj hji hun hjD
        have h2 := hall j (Array.getElem?_eq_some_iff.1 hoj).1
        simp only [hoj, hoi, hun, hji, false_or, Bool.false_eq_true, List.contains_iff_mem, hjD, Bool.and_eq_true, Bool.or_eq_true, beq_iff_eq, bne_iff_ne] at h2
        refine ⟨h2.1, ?_⟩
        rw [hki]
        rcases h2.2 with e | ⟨e1, e2⟩
        · exact .inl e
        · exact .inr ⟨e1, fun e3 => e2.resolve_left (fun e4 => e4 e3)⟩
      · intro j hjD
        simpa using (hD j hjD).1
  | 0, .alt p q, listed, a, h, hn, hp, he, hh => by
    simp only [Plan.ok, Bool.and_eq_true, Bool.not_eq_true', beq_eq_false_iff_ne] at hp
    obtain ⟨⟨h1, h2, h3⟩, h4⟩ := hp
    cases hr : Region.ready .any ops listed with
    | nil => exact absurd hr h4
    | cons i l =>
      rw [hr] at h1
      simp only [List.all_cons, Bool.and_eq_true, List.contains_iff_mem] at h1
      simp only [Plan.even, Bool.and_eq_true, beq_iff_eq] at he
      have h5 : i ∈ (Plan.alt p q).heads := h1.1
      obtain ⟨p', _, _, h6, _⟩ := branch_head (kd := kd) (ops := ops) (bef := bef) (Plan.alt p q) listed a h (by simp only [Plan.ok, Bool.and_eq_true]; exact ⟨h2, h3⟩) (by simp only [Plan.even, Bool.and_eq_true, beq_iff_eq]; exact he) h5 hh
      omega
  | n + 1, .alt p q, listed, a, h, hn, hp, he, hh => by
    simp only [Plan.ok, Bool.and_eq_true, Bool.not_eq_true', beq_eq_false_iff_ne] at hp
    obtain ⟨⟨h1, h2, h3⟩, h4⟩ := hp
    refine ⟨fun h0 => absurd h0 h4, fun i hi it hit => ?_⟩
    have h5 : i ∈ (Plan.alt p q).heads := by
      have := List.all_eq_true.1 h1 i hi
      simpa [Plan.heads] using this
    obtain ⟨p', k1, k2, k3, k4⟩ := branch_head (kd := kd) (ops := ops) (bef := bef) (Plan.alt p q) listed a h (by simp only [Plan.ok, Bool.and_eq_true]; exact ⟨h2, h3⟩) he h5 hh
    exact opI_mono (fun a' h' hk => tree_sound hs n p' _ a' h' (by omega) k1 k2 hk) (k4 it hit)

def planItems (ops : Array Oper) (kd : Nat → Kd) (kp : List Chunk) (order : List Nat) : List Item := order.filterMap (itemAt kd kp ops)

theorem region_plan {Q : Act → List Chunk → Prop} {Q' : Exit → Act → World → Prop} (hQ : ∀ a h w, Rep W h w → Q a h → Q' .normal a w) {order : List Nat} {id : Nat} {a : Act} {h : List Chunk} {w : World}
    (hm : P.follows .mixedOrders = true)
    (hp : (Region.noSelect ops && (order.length == ops.size && planOK kd ops (Region.before ops) order (Array.replicate ops.size false))) = true)
    (hw : Rep W h w) (hh : seqS P W Q (planItems ops kd kp order) a h) : (Code.region id ops true).wp P Q' a w := by
  simp only [Bool.and_eq_true, beq_iff_eq] at hp
  refine wp_region_any hm ?_
  rw [← hp.2.1]
  refine anyS_sound (kd := kd) (kp := kp) (Q := Q) hQ _ _ a h _ (hw.drawn _) ?_
  exact plan_sound hp.1 order _ a h (by rw [hp.2.1]; exact hp.2.2) hh

theorem region_tree {Q : Act → List Chunk → Prop} {Q' : Exit → Act → World → Prop} (hQ : ∀ a h w, Rep W h w → Q a h → Q' .normal a w) {p : Plan} {id : Nat} {a : Act} {h : List Chunk} {w : World}
    (hm : P.follows .mixedOrders = true)
    (hp : (Region.noSelect ops && (p.len == ops.size && (p.even && Plan.ok kd ops (Region.before ops) false p (Array.replicate ops.size false)))) = true)
    (hw : Rep W h w) (hh : seqP P W kd kp ops Q p a h) : (Code.region id ops true).wp P Q' a w := by
  simp only [Bool.and_eq_true, beq_iff_eq] at hp
  obtain ⟨h1, h2, h3, h4⟩ := hp
  refine wp_region_any hm ?_
  refine anyS_sound (kd := kd) (kp := kp) (Q := Q) hQ _ _ a h _ (hw.drawn _) ?_
  exact tree_sound h1 ops.size p _ a h h2 h4 h3 hh

end
end Go.Sl
