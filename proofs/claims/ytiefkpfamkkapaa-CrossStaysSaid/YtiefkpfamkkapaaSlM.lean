/- The logic, more: structs built cell by cell; rows of chunks in another order. Over any program; no condition of its own. -/
import Derived.Test.YtiefkpfamkkapaaSlK
set_option linter.unusedSimpArgs false
set_option linter.unusedVariables false
namespace Go.Sl
open Go Go.RowKit
variable {P : Program} {W : World} {N : Nat} {T : Tab} {env : Env} {h : List Chunk} {Q : Exit → Env → List Chunk → Prop} {kf : KF} {ops : Array Oper} {K : Env → List Chunk → Prop} {rest : List Oper}

theorem permC {h G F : List Chunk} {x : Chunk} (h1 : h.Perm (x :: G)) (h2 : G.Perm F) : h.Perm (x :: F) := h1.trans (h2.cons x)
theorem ret4 {R : Value → List Chunk → Prop} {t1 t2 t3 t4 : Tmp} {v1 v2 v3 v4 : Value} (h1 : env.lookup t1 = some v1) (h2 : env.lookup t2 = some v2) (h3 : env.lookup t3 = some v3) (h4 : env.lookup t4 = some v4)
    (hr : R (.tuple #[v1, v2, v3, v4]) h) : RetQ P W [.tmp t1, .tmp t2, .tmp t3, .tmp t4] R .ret env h := ⟨[v1, v2, v3, v4], ⟨h1, h2, h3, h4, trivial⟩, hr⟩

/-! ### a struct built cell by cell -/
def layS (cs : List Value) (off : Nat) (v : Value) : List Value := match v with
  | .agg _ => lay cs off v.cells.toList
  | .tuple _ => lay cs off v.cells.toList
  | v => cs.set off v
def fillS (place : Nat → Option (Nat × Nat)) (cells : List Value) : List (Nat × Value) → Option (List Value)
  | [] => some cells
  | (i, v) :: rest => match place i with
    | none => none
    | some (off, size) => if v.cells.size = size ∧ off + size ≤ cells.length then fillS place (layS cells off v) rest else none
def buildS (T : Tab) (env : Env) (t : TypeId) (parts : List (Nat × Operand)) : Option (List Value) :=
  match T.lookup t with
  | some ⟨.struct fs, _, _, z⟩ => match placesV T fs.toList, evalPs env parts with
    | some ps, some vs => fillS (fun i => ps[i]?) z.cells.toList vs
    | _, _ => none
  | _ => none
theorem lay_one {cs : List Value} {off : Nat} {v : Value} (h : off + 1 ≤ cs.length) : lay cs off [v] = cs.set off v := by
  unfold lay
  rw [List.set_eq_take_append_cons_drop, if_pos (by omega)]
  simp
theorem layS_eq {cs : List Value} {off : Nat} {v : Value} (h : off + v.cells.size ≤ cs.length) : layS cs off v = lay cs off v.cells.toList := by
  unfold layS
  split
  · rfl
  · rfl
  · rename_i h1 h2
    have e : v.cells = #[v] := by
      cases v <;> first | rfl | exact absurd rfl (h1 _) | exact absurd rfl (h2 _)
    rw [e] at h ⊢
    exact (lay_one h).symm
theorem fillS_eq (place : Nat → Option (Nat × Nat)) : ∀ (parts : List (Nat × Value)) (cells : List Value), fillS place cells parts = fillL place cells parts
  | [], cells => rfl
  | (i, v) :: rest, cells => by
    unfold fillS fillL
    cases hp : place i with
    | none => rfl
    | some q =>
      obtain ⟨off, size⟩ := q
      dsimp only
      split
      · rename_i hc
        rw [layS_eq (by rw [hc.1]; exact hc.2), fillS_eq place rest]
      · rfl
theorem es_buildS (hT : TabOK P T) {b : Bool} {d : Tmp} {ty pos af g} {t : TypeId} {parts : Array (Nat × Operand)} {cs : List Value} (hg : evalG ops env g = some b) (hb : b = true) (hd : Nat.blt d N = true)
    (hv : buildS T env t parts.toList = some cs)
    (hK : ES P W N kf ops rest ((d, .agg cs.toArray) :: env) h K) : ES P W N kf ops (⟨some d, .build t parts, ty, pos, af, g⟩ :: rest) env h K := by
  refine es_build hT hg hb hd ?_ hK
  unfold buildS at hv
  unfold buildV
  split at hv
  · split at hv
    · rename_i h0 _ _ _ _ h1 h2
      simp only [h0, h1, h2]
      rw [← fillS_eq]; exact hv
    · cases hv
  · cases hv
end Go.Sl
