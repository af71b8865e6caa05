/- The logic, more: loops that start with more than they want. Over any program; no condition of its own. -/
import Derived.Test.YtiefkpfamkkapaaSlI
set_option linter.unusedSimpArgs false
set_option linter.unusedVariables false
namespace Go.Sl
open Go Go.RowKit
variable {P : Program} {W : World} {N : Nat} {T : Tab} {env : Env} {h : List Chunk} {Q : Exit → Env → List Chunk → Prop} {kf : KF} {ops : Array Oper} {K : Env → List Chunk → Prop} {rest : List Oper}

theorem aw_loopD {α : Type} {c : Code} (E : α → Env) (H : α → List Chunk) (μ : α → Nat) (S : α → Prop) (x : α) (hs : S x) (he : Sub env (E x)) (hp : DropTo h (H x))
    (hc : ∀ x, S x → AW P W N c (E x) (H x) (LoopQ E H μ S x Q)) : AW P W N (.loop c) env h Q :=
  let ⟨J, p⟩ := hp; aw_loop E H μ S x (J := J) hs he p hc
theorem blockq_n' {id : Nat} (hq : Q .normal env h) : BlockQ id Q .normal env h := hq
end Go.Sl
