/- The logic, more: plans that part for regions where nothing grows in place; small things. Over any program; no condition of its own. -/
import Derived.Test.YtiefkpfamkkapaaSlH
set_option linter.unusedSimpArgs false
set_option linter.unusedVariables false
namespace Go.Sl
open Go Go.RowKit
variable {P : Program} {W : World} {N : Nat} {T : Tab} {env : Env} {h : List Chunk} {Q : Exit → Env → List Chunk → Prop} {kf : KF} {ops : Array Oper} {K : Env → List Chunk → Prop} {rest : List Oper}

theorem aw_treeD {id : Nat} {ol : List Oper} (q al : List FuncId) (p : Plan) (hm : P.follows .mixedOrders = true)
    (hp : (Region.noSelect ol.toArray && (p.len == ol.toArray.size && (p.even && Plan.ok (kdOf (kfD q al) ol.toArray) ol.toArray (Region.before ol.toArray) false p (Array.replicate ol.toArray.size false)))) = true)
    (hep : EP P W N (kfD q al) ol.toArray p env h fun env' h' => Q .normal env' h') : AW P W N (.region id ol.toArray true) env h Q := fun a w ha hw => by
  exact region_tree (W := W) (kp := (kfD q al).keep) (kd := kdOf (kfD q al) ol.toArray) (Q := fun a' h' => ∃ env', Q .normal env' h' ∧ Agree N env' a') (fun a' h' w' hw' ⟨env', hq, ha'⟩ => ⟨env', h', hq, ha', hw'⟩) hm hp hw (hep a ha)
theorem pull2 {h' G F : List Chunk} {x y : Chunk} (h1 : h'.Perm (x :: G)) (h2 : G.Perm (y :: F)) : h'.Perm (x :: y :: F) := h1.trans (h2.cons _)
theorem es_sameB (hT : TabOK P T) {b : Bool} {k : IntKind} {e : Int} {d : Tmp} {t yt : TypeId} {x y : Operand} {ty pos af g} (hg : evalG ops env g = some b) (hb : b = true) (hd : Nat.blt d N = true) (hx : evalE env x = some (.int k e)) (hy : evalE env y = some (.int k e))
    (hK : ES P W N kf ops rest ((d, .bool true) :: env) h K) : ES P W N kf ops (⟨some d, .binOp .eql t x y yt, ty, pos, af, g⟩ :: rest) env h K :=
  es_pure hT hg hb hd (v := .bool (e == e)) (by simp [evalPure, hx, hy, cmpV]) (by rw [beq_self_eq_true]; exact hK)
theorem es_diffB (hT : TabOK P T) {b : Bool} {k : IntKind} {e : Int} {d : Tmp} {t yt : TypeId} {x y : Operand} {ty pos af g} (hg : evalG ops env g = some b) (hb : b = true) (hd : Nat.blt d N = true) (hx : evalE env x = some (.int k e)) (hy : evalE env y = some (.int k e))
    (hK : ES P W N kf ops rest ((d, .bool false) :: env) h K) : ES P W N kf ops (⟨some d, .binOp .neq t x y yt, ty, pos, af, g⟩ :: rest) env h K :=
  es_pure hT hg hb hd (v := .bool (e != e)) (by simp [evalPure, hx, hy, cmpV]) (by rw [bne_self_eq_false]; exact hK)
end Go.Sl
