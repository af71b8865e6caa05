/- The logic, more: numbers without a sign that go round, shifts, one bit. Over any program; no condition of its own. -/
import Derived.Test.YtiefkpfamkkapaaSlI
import Derived.Laws.Externs
import Derived.Laws.Bits64b
set_option linter.unusedSimpArgs false
set_option linter.unusedVariables false
namespace Go.Sl
open Go Go.RowKit
variable {P : Program} {W : World} {N : Nat} {T : Tab} {env : Env} {h : List Chunk} {Q : Exit → Env → List Chunk → Prop} {kf : KF} {ops : Array Oper} {K : Env → List Chunk → Prop} {rest : List Oper}

theorem es_u64r (hT : TabOK P T) {b : Bool} {e : Int} {d : Tmp} {op ty pos af g} (hg : evalG ops env g = some b) (hb : b = true) (hd : Nat.blt d N = true) (hv : evalArith T env op = some (.u64, e))
    (hK : ES P W N kf ops rest ((d, .int .u64 (e % 18446744073709551616)) :: env) h K) : ES P W N kf ops (⟨some d, op, ty, pos, af, g⟩ :: rest) env h K :=
  es_run hg hb hd (fun _ ha w => by rw [evalArith_run hT ha hv w, IntKind.wrap_u64]) hK

theorem es_shr {b : Bool} {e : Int} {n : Nat} {k yk : IntKind} {d : Tmp} {t yt : TypeId} {x y : Operand} {ty pos af g} (hg : evalG ops env g = some b) (hb : b = true) (hd : Nat.blt d N = true) (hx : evalE env x = some (.int k e)) (hy : evalE env y = some (.int yk (n : Int))) (hk : k.bits = 64) (hn : n ≤ 64)
    (hK : ES P W N kf ops rest ((d, .int k (e / (2 ^ n : Nat))) :: env) h K) : ES P W N kf ops (⟨some d, .binOp .shr t x y yt, ty, pos, af, g⟩ :: rest) env h K :=
  es_run hg hb hd (fun a ha w => by
    have h2 : (0 : Int) ≤ ((2 ^ n : Nat) : Int) := Int.natCast_nonneg _
    have e1 : e.fdiv ((2 ^ n : Nat) : Int) = e / ((2 ^ n : Nat) : Int) := Int.fdiv_eq_ediv_of_nonneg e h2
    have this' : min n k.bits = n := by rw [hk]; omega
    have e2 : ¬ ((n : Int) < 0) := by omega
    rw [← e1]
    simp [execOp, ha.eval hx, ha.eval hy, eqGuard, binOp, Op.shift, this', e2]) hK

theorem es_bit {b : Bool} {e : Int} {d : Tmp} {t yt : TypeId} {x y : Operand} {ty pos af g} (hg : evalG ops env g = some b) (hb : b = true) (hd : Nat.blt d N = true) (hx : evalE env x = some (.int .i64 e)) (hy : evalE env y = some (.int .i64 1)) (h0 : 0 ≤ e) (h1 : e ≤ 9223372036854775807)
    (hK : ES P W N kf ops rest ((d, .int .i64 (e % 2)) :: env) h K) : ES P W N kf ops (⟨some d, .binOp .and t x y yt, ty, pos, af, g⟩ :: rest) env h K := by
  obtain ⟨n, rfl⟩ := Int.eq_ofNat_of_zero_le h0
  have e1 : (BitVec.ofInt 64 (n : Int) &&& BitVec.ofInt 64 (1 : Int)).toNat = n % 2 := by
    rw [BitVec.toNat_and, show BitVec.ofInt 64 (n : Int) = BitVec.ofNat 64 n from BitVec.ofInt_natCast .., show (BitVec.ofInt 64 (1 : Int)).toNat = 1 from by decide, BitVec.toNat_ofNat, Nat.and_one_is_mod]
    omega
  refine es_run hg hb hd (fun a ha w => ?_) hK
  have e2 : (Op.intBits .and .i64 (n : Int) 1).run P w = .ok (.int .i64 ((n : Int) % 2)) w := by
    show (pure (Value.int .i64 (IntKind.i64.wrap ((BitVec.ofInt 64 (n : Int) &&& BitVec.ofInt 64 (1 : Int)).toNat : Int))) : Sem Value).run P w = _
    rw [Sem.run_pure, e1, IntWalk.i64_in _ ⟨by omega, by omega⟩]
    congr 2
  simp [execOp, ha.eval hx, ha.eval hy, eqGuard, binOp, e2]

/-- 'x & m', both without a sign, m = 2^j - 1 -/
theorem es_low {b : Bool} {e : Int} {j : Nat} {d : Tmp} {t yt : TypeId} {x y : Operand} {ty pos af g} (hg : evalG ops env g = some b) (hb : b = true) (hd : Nat.blt d N = true) (hx : evalE env x = some (.int .u64 e)) (hy : evalE env y = some (.int .u64 ((2 ^ j - 1 : Nat) : Int))) (h0 : 0 ≤ e) (h1 : e ≤ 18446744073709551615) (hj : j ≤ 64)
    (hK : ES P W N kf ops rest ((d, .int .u64 (e % ((2 ^ j : Nat) : Int))) :: env) h K) : ES P W N kf ops (⟨some d, .binOp .and t x y yt, ty, pos, af, g⟩ :: rest) env h K := by
  obtain ⟨n, rfl⟩ := Int.eq_ofNat_of_zero_le h0
  have hp : 2 ^ j ≤ 2 ^ 64 := Nat.pow_le_pow_right (by decide) hj
  have h2 := bits_and_u64_nat n (2 ^ j - 1) (by omega) (by omega)
  rw [Nat.and_two_pow_sub_one_eq_mod] at h2
  refine es_run hg hb hd (fun a ha w => ?_) hK
  have hw : IntKind.u64.wrap (((n % 2 ^ j : Nat)) : Int) = ((n % 2 ^ j : Nat) : Int) := IntWalk.u64_in _ ⟨by omega, by
    have := Nat.mod_le n (2 ^ j)
    omega⟩
  have e2 : (Op.intBits .and .u64 (n : Int) ((2 ^ j - 1 : Nat) : Int)).run P w = .ok (.int .u64 ((n : Int) % ((2 ^ j : Nat) : Int))) w := by
    show (pure (Value.int .u64 (bits .and .u64 (n : Int) ((2 ^ j - 1 : Nat) : Int))) : Sem Value).run P w = _
    rw [Sem.run_pure, h2]
    congr 2
  simp [execOp, ha.eval hx, ha.eval hy, eqGuard, binOp, e2]
end Go.Sl
