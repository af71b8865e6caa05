/- The last step of a row, more: an argument that is a struct. Over any program; conditions stand in each statement. -/
import Derived.Test.YtiefkpfamkkapaaRow
import Derived.Lib.SmallJoins
set_option linter.unusedSimpArgs false
set_option linter.unusedVariables false
namespace Go.Sl
open Go Go.RowKit Go.ChangeShapes Go.WideShapes
variable {H : Type} {enc : TypeId × Value → H} {P : Program} {W : World}

theorem open_struct {t : TypeId} {fs : Array Field} {ls : List Leaf} {α : Type} {en : α → List Value} {ok : α → Prop} {r : Reach} {b0 : Nat} {v : Value} {d : DataW H} {p : List MemPlace} (N : Nat) (ht : P.underlying t = some (.struct fs)) (hl : leafs P N t = some ls) (hC : P.cellsOf t = ls.length)
    (hdec : ∀ vs, FitsL ls vs → ∃ x, en x = vs ∧ ok x) (hval : Value.okWide P W r b0 t v) (h : DataW.Trod enc P W 0 (fun _ => true) true t v d p) :
    ∃ x : α, v = .agg (en x).toArray ∧ ok x := by
  obtain ⟨cs, rfl, hsz⟩ := okWide_struct ht hval
  obtain ⟨fuel, hf⟩ := h
  obtain ⟨x, hx, ho⟩ := hdec cs.toList (leafs_fits N fuel t ls cs.toList _ hl (by simpa using hsz.trans hC) hf)
  exact ⟨x, by rw [hx], ho⟩
end Go.Sl
