/- More rules: a row laid open and shut, copy, clear, append in place, min, max, struct equality, shifts. Over any program; no condition of its own. -/
import Derived.Test.YtiefkpfamkkapaaSlF
import Derived.Lib.Overlaps
set_option linter.unusedSimpArgs false
set_option linter.unusedVariables false
namespace Go.Sl
open Go Go.RowKit

section
variable {P : Program} {W : World} {T : Tab} {N : Nat} {env env' : Env} {h h' h2 : List Chunk} {kf : KF} {ops : Array Oper} {K : Env → List Chunk → Prop} {o : Oper} {rest : List Oper} {Q : Exit → Env → List Chunk → Prop}

/-! ### a row laid open to its whole block, and shut again -/
theorem Rep.open_ {w : World} {g n c k : Nat} {e : TypeId} {cs : List Value} (hw : Rep W (.own (some ⟨g, 0, none⟩) n c e k cs :: h) w) :
    ∃ cur : List Value, cur.length = c * k ∧ cur.take (n * k) = cs ∧ n ≤ c ∧ c ≤ 9223372036854775807 ∧ cs.length = n * k ∧ (∀ v ∈ cs, v.oneCell' = true) ∧ Rep W (.blk g e cur :: h) w := by
  have ho := hw.holds _ mem0
  rcases ho.1.2 with ⟨hv, _⟩ | ⟨g', cap, cur, hv, hb, hg, hnc, hcm, hsz, htk⟩
  · cases hv
  · injection hv with hA _ hc
    injection hA with hA
    injection hA with hA _ _
    subst hA hc
    exact ⟨cur.toList, by simpa using hsz, htk, hnc, by simpa [maxLen] using hcm, ho.1.1, ho.2, hw.change (row := none) (World.grownBy.refl w none) (fun g e => by cases e) ⟨hb, by simpa using hg⟩ (fun g' hg' => .inl hg')⟩

theorem Rep.shut_ {w : World} {g n c k : Nat} {e : TypeId} {cur cs : List Value} (hw : Rep W (.blk g e cur :: h) w) (hl : cur.length = c * k) (ht : cur.take (n * k) = cs) (hcs : cs.length = n * k) (hn : n ≤ c) (hc : c ≤ 9223372036854775807) (h1 : ∀ v ∈ cs, v.oneCell' = true) :
    Rep W (.own (some ⟨g, 0, none⟩) n c e k cs :: h) w := by
  have ho := hw.holds _ mem0
  exact hw.change (row := none) (World.grownBy.refl w none) (fun g e => by cases e) ⟨⟨hcs, .inr ⟨g, c, cur.toArray, rfl, ho.1, ho.2, hn, by simpa [maxLen] using hc, by simpa using hl, by simpa using ht⟩⟩, h1⟩ (fun g' hg' => .inl hg')

theorem aw_conv {c : Code} (hc : ∀ w, Rep W h w → ∃ h2, Rep W h2 w ∧ AW P W N c env h2 Q) : AW P W N c env h Q := fun a w ha hw =>
  let ⟨_, hw2, h3⟩ := hc w hw; h3 a w ha hw2

theorem aw_perm {c : Code} (hp : h.Perm h2) (hc : AW P W N c env h2 Q) : AW P W N c env h Q := fun a w ha hw => hc a w ha (hw.perm hp)

theorem aw_open {c : Code} {g n cc k : Nat} {e : TypeId} {cs : List Value} (hp : h.Perm (.own (some ⟨g, 0, none⟩) n cc e k cs :: h'))
    (hc : ∀ cur : List Value, cur.length = cc * k → cur.take (n * k) = cs → n ≤ cc → cc ≤ 9223372036854775807 → cs.length = n * k → (∀ v ∈ cs, v.oneCell' = true) → AW P W N c env (.blk g e cur :: h') Q) : AW P W N c env h Q :=
  aw_conv fun w hw => let ⟨cur, h1, h2, h3, h4, h5, h6, h7⟩ := (hw.perm hp).open_; ⟨_, h7, hc cur h1 h2 h3 h4 h5 h6⟩

theorem aw_shut {c : Code} {g n cc k : Nat} {e : TypeId} {cur cs : List Value} (hp : h.Perm (.blk g e cur :: h')) (hl : cur.length = cc * k) (ht : cur.take (n * k) = cs) (hcs : cs.length = n * k) (hn : n ≤ cc) (hcc : cc ≤ 9223372036854775807) (h1 : ∀ v ∈ cs, v.oneCell' = true)
    (hc : AW P W N c env (.own (some ⟨g, 0, none⟩) n cc e k cs :: h') Q) : AW P W N c env h Q :=
  aw_conv fun w hw => ⟨_, (hw.perm hp).shut_ hl ht hcs hn hcc h1, hc⟩

theorem es_conv {dst op ty pos af} (hk : (kf ⟨dst, op, ty, pos, af, none⟩).wr = true) (hc : ∀ w, Rep W h w → ∃ h2, Rep W h2 w ∧ ES P W N kf ops (⟨dst, op, ty, pos, af, none⟩ :: rest) env h2 K) : ES P W N kf ops (⟨dst, op, ty, pos, af, none⟩ :: rest) env h K := fun a ha => by
  have hgk : gOk (mkItem kf ops ⟨dst, op, ty, pos, af, none⟩).g a.tmps = true := rfl
  refine opI_of_write (it := mkItem kf ops ⟨dst, op, ty, pos, af, none⟩) hgk (wr_of hk) (fun w hw => ?_)
  obtain ⟨h2, hw2, he⟩ := hc w hw
  have := he a ha
  simp only [List.map_cons, seqS] at this
  unfold opI at this
  have hkd : (mkItem kf ops ⟨dst, op, ty, pos, af, none⟩).kd = .write := wr_of hk
  simp only [hgk, hkd, if_true] at this
  exact this w hw2

theorem es_open {dst op ty pos af} {g n cc k : Nat} {e : TypeId} {cs : List Value} (hk : (kf ⟨dst, op, ty, pos, af, none⟩).wr = true) (hp : h.Perm (.own (some ⟨g, 0, none⟩) n cc e k cs :: h'))
    (hc : ∀ cur : List Value, cur.length = cc * k → cur.take (n * k) = cs → n ≤ cc → cc ≤ 9223372036854775807 → ES P W N kf ops (⟨dst, op, ty, pos, af, none⟩ :: rest) env (.blk g e cur :: h') K) : ES P W N kf ops (⟨dst, op, ty, pos, af, none⟩ :: rest) env h K :=
  es_conv hk fun w hw => let ⟨cur, h1, h2, h3, h4, _, _, h7⟩ := (hw.perm hp).open_; ⟨_, h7, hc cur h1 h2 h3 h4⟩

/-- the facts of a row of the call's own -/
theorem aw_fact {c : Code} {A : Option Addr} {n cc k : Nat} {e : TypeId} {cs : List Value} (hm : Chunk.own A n cc e k cs ∈ h)
    (hc : cs.length = n * k → n ≤ cc → cc ≤ 9223372036854775807 → (0 < n → ∃ g, A = some ⟨g, 0, none⟩) → (A = none → cc = 0) → (∀ v ∈ cs, v.oneCell' = true) → AW P W N c env h Q) : AW P W N c env h Q := fun a w ha hw => by
  have ho := hw.holds _ hm
  refine hc ho.1.1 ?_ ?_ ?_ ?_ ho.2 a w ha hw
  · rcases ho.1.2 with ⟨hv, hn⟩ | ⟨g', cap, cur, hv, hb, hg, hnc, _⟩ <;> injection hv <;> omega
  · rcases ho.1.2 with ⟨hv, hn⟩ | ⟨g', cap, cur, hv, hb, hg, hnc, hcm, _⟩ <;> injection hv with _ _ hcc
    · omega
    · simp only [maxLen] at hcm; omega
  · intro h0
    rcases ho.1.2 with ⟨hv, hn⟩ | ⟨g', cap, cur, hv, _⟩
    · omega
    · injection hv with hA _ _; exact ⟨g', hA⟩
  · intro hA
    rcases ho.1.2 with ⟨hv, hn⟩ | ⟨g', cap, cur, hv, _⟩
    · injection hv
    · injection hv with hA' _ _; rw [hA] at hA'; cases hA'

theorem Reads.blk {g : Nat} {t : TypeId} {cur : List Value} (hm : Chunk.blk g t cur ∈ h) {off m k : Nat} {cs : List Value} (hcs : (cur.drop off).take (m * k) = cs) (hl : cs.length = m * k) (h1 : ∀ v ∈ cs, v.oneCell' = true) : Reads W h (some ⟨g, off, none⟩) m k cs := by
  refine ⟨hl, h1, fun w hw j v hj => ⟨rfl, ?_⟩⟩
  rw [← hcs] at hj
  simp only [List.getElem?_take, List.getElem?_drop] at hj
  split at hj
  · simp only [adr, Option.getD_some, add_blk, hw.cell_blk hm]; exact hj
  · cases hj

/-! ### plain ones -/
theorem es_u64 (hT : TabOK P T) {b : Bool} {e : Int} {d : Tmp} {op ty pos af g} (hg : evalG ops env g = some b) (hb : b = true) (hd : Nat.blt d N = true) (hv : evalArith T env op = some (.u64, e))
    (h1 : 0 ≤ e) (h2 : e ≤ 18446744073709551615)
    (hK : ES P W N kf ops rest ((d, .int .u64 e) :: env) h K) : ES P W N kf ops (⟨some d, op, ty, pos, af, g⟩ :: rest) env h K :=
  es_run hg hb hd (fun _ ha w => by rw [evalArith_run hT ha hv w, IntWalk.u64_in e ⟨h1, h2⟩]) hK

theorem es_half {b : Bool} {e : Int} {k yk : IntKind} {d : Tmp} {t yt : TypeId} {x y : Operand} {ty pos af g} (hg : evalG ops env g = some b) (hb : b = true) (hd : Nat.blt d N = true) (hx : evalE env x = some (.int k e)) (hy : evalE env y = some (.int yk 1)) (hk : k.bits = 64)
    (hK : ES P W N kf ops rest ((d, .int k (e / 2)) :: env) h K) : ES P W N kf ops (⟨some d, .binOp .shr t x y yt, ty, pos, af, g⟩ :: rest) env h K :=
  es_run hg hb hd (fun a ha w => by
    have e1 : e.fdiv 2 = e / 2 := Int.fdiv_eq_ediv_of_nonneg e (by decide)
    have this' : min 1 k.bits = 1 := by rw [hk]; decide
    simp [execOp, ha.eval hx, ha.eval hy, eqGuard, binOp, Op.shift, this', e1]) hK

theorem es_cap (hT : TabOK P T) {b : Bool} {d : Tmp} {ty pos af g} {t e : TypeId} {ti : TI} {x : Operand} {A : Option Addr} {n c : Nat} (hg : evalG ops env g = some b) (hb : b = true) (hd : Nat.blt d N = true) (ht : T.lookup t = some ti) (htd : ti.desc = .slice e) (hx : evalE env x = some (.slice A n c))
    (hK : ES P W N kf ops rest ((d, .int .i64 c) :: env) h K) : ES P W N kf ops (⟨some d, .call { callee := .builtin .cap, args := #[x], argTypes := #[t] }, ty, pos, af, g⟩ :: rest) env h K :=
  es_run hg hb hd (fun a ha w => by
    have g1 := (hT _ _ ht).1
    rw [htd] at g1
    simp [execOp, resolve, invoke, builtin, Builtin.cap_, ha.eval hx, run_underlying g1, goInt]) hK

theorem es_min {b : Bool} {d : Tmp} {ty pos af g} {t1 t2 : TypeId} {x y : Operand} {k k' : IntKind} {m n : Int} (hg : evalG ops env g = some b) (hb : b = true) (hd : Nat.blt d N = true) (hx : evalE env x = some (.int k m)) (hy : evalE env y = some (.int k' n))
    (hK : ES P W N kf ops rest ((d, .int k (min m n)) :: env) h K) : ES P W N kf ops (⟨some d, .call { callee := .builtin .min, args := #[x, y], argTypes := #[t1, t2] }, ty, pos, af, g⟩ :: rest) env h K :=
  es_run hg hb hd (fun a ha w => by
    have : min m n = if n < m then n else m := by omega
    simp [execOp, resolve, invoke, builtin, Builtin.min_, Builtin.min2, ha.eval hx, ha.eval hy, this]) hK

theorem es_max {b : Bool} {d : Tmp} {ty pos af g} {t1 t2 : TypeId} {x y : Operand} {k k' : IntKind} {m n : Int} (hg : evalG ops env g = some b) (hb : b = true) (hd : Nat.blt d N = true) (hx : evalE env x = some (.int k m)) (hy : evalE env y = some (.int k' n))
    (hK : ES P W N kf ops rest ((d, .int k (max m n)) :: env) h K) : ES P W N kf ops (⟨some d, .call { callee := .builtin .max, args := #[x, y], argTypes := #[t1, t2] }, ty, pos, af, g⟩ :: rest) env h K :=
  es_run hg hb hd (fun a ha w => by
    have : max m n = if n > m then n else m := by omega
    simp [execOp, resolve, invoke, builtin, Builtin.max_, Builtin.max2, ha.eval hx, ha.eval hy, this]) hK

theorem es_slice3 (hT : TabOK P T) {b : Bool} {d : Tmp} {ty pos af g} {t e : TypeId} {ti te : TI} {x lo hi mx : Operand} {A : Option Addr} {n c l r m : Nat} {k1 k2 k3 : IntKind} (hg : evalG ops env g = some b) (hb : b = true) (hd : Nat.blt d N = true)
    (ht : T.lookup t = some ti) (htd : ti.desc = .slice e) (hte : T.lookup e = some te) (hx : evalE env x = some (.slice A n c)) (hl : evalE env lo = some (.int k1 l)) (hr : evalE env hi = some (.int k2 r)) (hm : evalE env mx = some (.int k3 m))
    (h1 : l ≤ r) (h2 : r ≤ m) (h3 : m ≤ c)
    (hK : ES P W N kf ops rest ((d, .slice (cutA A m l te.size) (r - l) (m - l)) :: env) h K) : ES P W N kf ops (⟨some d, .slice t x (some lo) (some hi) (some mx), ty, pos, af, g⟩ :: rest) env h K :=
  es_run hg hb hd (fun a ha w => by
    have g1 := hT _ _ ht
    have g2 := hT _ _ hte
    have hu := g1.1
    rw [htd] at hu
    have h1' : (l : Int) ≤ r := by omega
    have h2' : (r : Int) ≤ m := by omega
    have h3' : (m : Int) ≤ c := by omega
    simp [execOp, ha.eval hx, ha.eval hl, ha.eval hr, ha.eval hm, Instr.sliceAt, run_underlying hu, Instr.slice, Instr.sliceBounds, Instr.sliceBound, asIntOf, h1, h2, h3, g2.sz, cutA]) hK

/-- a call of a function without a body -/
theorem es_extern {b : Bool} {d : Tmp} {ty pos af g} {f : FuncId} {x : Operand} {as : Array Operand} {ats : Array TypeId} {vs : List Value} {v : Value} (hg : evalG ops env g = some b) (hb : b = true) (hd : Nat.blt d N = true)
    (hk : (kf ⟨some d, .call { callee := .value x, args := as, argTypes := ats }, ty, pos, af, g⟩).np = true)
    (hx : evalE env x = some (.func (.func f) #[] #[])) (hv : evalEs env as.toList = some vs) (hrun : ∀ w, RepS W h w → (callFunc f vs.toArray).run P w = .ok (.value v) w)
    (hK : ES P W N kf ops rest ((d, v) :: env) h K) : ES P W N kf ops (⟨some d, .call { callee := .value x, args := as, argTypes := ats }, ty, pos, af, g⟩ :: rest) env h K := fun a ha => by
  subst hb
  refine opI_of_quiet (it := mkItem kf ops ⟨some d, .call { callee := .value x, args := as, argTypes := ats }, ty, pos, af, g⟩) (v := v) (evalG_ok ha hg) (np_of hk) (fun h' hsub w hw => ?_) (hK _ (ha.put (d := some d) hd))
  have e3 : Array.map a.eval as = vs.toArray := by apply Array.ext'; simp [← ha.evals hv]
  have := hrun w (hw.weak hsub)
  unfold Oper.quietAt
  show Oper.quietUpon P _ w v ((execOp a.eval ⟨some d, .call { callee := .value x, args := as, argTypes := ats }, ty, pos, af, g⟩).run P w)
  have e : (execOp a.eval ⟨some d, .call { callee := .value x, args := as, argTypes := ats }, ty, pos, af, g⟩).run P w = .ok (.value v) w := by
    simp only [execOp, resolve, ha.eval hx, Deferred.ofValue, Sem.run_bind, Sem.run_pure, Result.andThen_ok, invoke, e3]
    simpa using this
  rw [e]
  exact ⟨rfl, rfl⟩

/-! ### copy, clear, append in place -/
theorem lay_eq {cur vs : List Value} {off : Nat} (hl : off + vs.length ≤ cur.length) : lay cur off vs = cur.take off ++ vs ++ cur.drop (off + vs.length) := rfl
theorem lay_len {cur vs : List Value} {off : Nat} (hl : off + vs.length ≤ cur.length) : (lay cur off vs).length = cur.length := by simp [lay]; omega

theorem es_copyB (hT : TabOK P T) {b : Bool} {d : Tmp} {ty pos af g} {t t2 e tt : TypeId} {ti te : TI} {x y : Operand} {ad : Addr} {A2 : Option Addr} {m c m2 c2 k : Nat} {cur vs : List Value} (hg : evalG ops env g = some b) (hb : b = true) (hd : Nat.blt d N = true)
    (hk : (kf ⟨some d, .call { callee := .builtin .copy, args := #[x, y], argTypes := #[t, t2] }, ty, pos, af, g⟩).wr = true)
    (ht : T.lookup t = some ti) (htd : ti.desc = .slice e) (hte : T.lookup e = some te) (hks : te.size = k)
    (hx : evalE env x = some (.slice (some ad) m c)) (hy : evalE env y = some (.slice A2 m2 c2)) (hp : h.Perm (.blk ad.block tt cur :: h')) (hs : ad.spot = none) (hr : Reads W h A2 (Nat.min m2 m) k vs) (hl : ad.off + vs.length ≤ cur.length)
    (hK : ES P W N kf ops rest ((d, .int .i64 (Nat.min m2 m : Nat)) :: env) (.blk ad.block tt (lay cur ad.off vs) :: h') K) :
    ES P W N kf ops (⟨some d, .call { callee := .builtin .copy, args := #[x, y], argTypes := #[t, t2] }, ty, pos, af, g⟩ :: rest) env h K := fun a ha => by
  subst hb hks
  refine opI_of_write (it := mkItem kf ops ⟨some d, .call { callee := .builtin .copy, args := #[x, y], argTypes := #[t, t2] }, ty, pos, af, g⟩) (evalG_ok ha hg) (wr_of hk) (fun w hw => ?_)
  obtain ⟨gb, off, s⟩ := ad
  simp only at hs hl hp hK
  subst hs
  have hw' := hw.perm hp
  have hh := hw'.heap_blk (g := gb) (t := tt) (cs := cur) mem0
  have hws : RepS W h w := hw.weak fun _ hc => hc
  have g1 := (hT _ _ ht).1
  rw [htd] at g1
  have g2 := hT _ _ hte
  have hvl : vs.length = Nat.min m2 m * te.size := hr.1
  have h1 : ∀ v ∈ vs, v.oneCell' = true := hr.2.1
  have hcells : (Builtin.firstCells te.size (Nat.min m2 m) (.slice A2 m2 c2)).run P w = .ok vs.toArray w := by
    cases A2 with
    | none =>
      have hv0 : vs = [] := by
        cases hq : vs with
        | nil => rfl
        | cons v us =>
          have := (hr.2.2 w hws 0 v (by rw [hq]; rfl)).1
          simp at this
      rw [hv0]; simp [Builtin.firstCells]
    | some ad2 => exact run_firstCells_some (P := P) w te.size _ ad2 m2 c2 vs hvl (fun j v hj => (hr.2.2 w hws j v hj).2)
  have hst := run_storeCells_at P gb off tt vs 0 cur.toArray w hh (by simpa using hl) h1
  simp only [Nat.add_zero] at hst
  have hrun : (execOp a.eval ⟨some d, .call { callee := .builtin .copy, args := #[x, y], argTypes := #[t, t2] }, ty, pos, af, g⟩).run P w = .ok (.value (.int .i64 (Nat.min m2 m : Nat))) (w.setRow gb (lay cur off vs).toArray) := by
    simp only [execOp, resolve, invoke, builtin, Sem.run_bind, Sem.run_pure, Result.andThen_ok, List.map_toArray, List.map_cons, List.map_nil, ha.eval hx, ha.eval hy]
    simp only [Builtin.copy_]
    simp [run_underlying g1, Builtin.lenOf, g2.sz, hcells, hst, lay, goInt]
  unfold Oper.wp
  show Oper.upon P _ a _ _ ((execOp a.eval ⟨some d, .call { callee := .builtin .copy, args := #[x, y], argTypes := #[t, t2] }, ty, pos, af, g⟩).run P w)
  rw [hrun]
  exact ⟨_, hw'.setRow_blk, hK _ (ha.put (d := some d) hd)⟩

theorem es_clear (hT : TabOK P T) {b : Bool} {ty pos af g} {t e tt : TypeId} {ti te : TI} {x : Operand} {ad : Addr} {m c k : Nat} {cur : List Value} (hg : evalG ops env g = some b) (hb : b = true)
    (hk : (kf ⟨none, .call { callee := .builtin .clear, args := #[x], argTypes := #[t] }, ty, pos, af, g⟩).wr = true)
    (ht : T.lookup t = some ti) (htd : ti.desc = .slice e) (hte : T.lookup e = some te) (hks : te.size = k) (hz : (Nat.blt 0 te.zero.cells.size && (te.zero.cells.size == te.size) && te.zero.cells.toList.all Value.oneCell') = true)
    (hx : evalE env x = some (.slice (some ad) m c)) (hp : h.Perm (.blk ad.block tt cur :: h')) (hs : ad.spot = none) (hl : ad.off + m * k ≤ cur.length)
    (hK : ES P W N kf ops rest env (.blk ad.block tt (lay cur ad.off (repZ te.zero.cells.toList m)) :: h') K) :
    ES P W N kf ops (⟨none, .call { callee := .builtin .clear, args := #[x], argTypes := #[t] }, ty, pos, af, g⟩ :: rest) env h K := fun a ha => by
  subst hb hks
  simp only [Bool.and_eq_true, beq_iff_eq, Nat.blt_eq] at hz
  obtain ⟨⟨hz0, hz1⟩, hz2⟩ := hz
  refine opI_of_write (it := mkItem kf ops ⟨none, .call { callee := .builtin .clear, args := #[x], argTypes := #[t] }, ty, pos, af, g⟩) (evalG_ok ha hg) (wr_of hk) (fun w hw => ?_)
  obtain ⟨gb, off, s⟩ := ad
  simp only at hs hl hp hK
  subst hs
  have hw' := hw.perm hp
  have hh := hw'.heap_blk (g := gb) (t := tt) (cs := cur) mem0
  have g1 := (hT _ _ ht).1
  rw [htd] at g1
  have g2 := hT _ _ hte
  have hzl : (repZ te.zero.cells.toList m).length = m * te.size := by rw [repZ_len]; simp [hz1]
  have hzc : (Builtin.zeroCells te.zero.cells m).toList = repZ te.zero.cells.toList m := by
    have := made_eq te.zero m hz0
    unfold Builtin.zeroCells
    rw [this]
  have hst := run_storeCells_at P gb off tt (repZ te.zero.cells.toList m) 0 cur.toArray w hh (by simpa [hzl] using hl) (repZ_one _ hz2 m)
  simp only [Nat.add_zero] at hst
  have hrun : (execOp a.eval ⟨none, .call { callee := .builtin .clear, args := #[x], argTypes := #[t] }, ty, pos, af, g⟩).run P w = .ok (.value (.tuple #[])) (w.setRow gb (lay cur off (repZ te.zero.cells.toList m)).toArray) := by
    simp only [execOp, resolve, invoke, builtin, Sem.run_bind, Sem.run_pure, Result.andThen_ok, List.map_toArray, List.map_cons, List.map_nil, ha.eval hx]
    cases m with
    | zero =>
      have e0 : w.setRow gb (lay cur off (repZ te.zero.cells.toList 0)).toArray = w := by
        have : lay cur off (repZ te.zero.cells.toList 0) = cur := by simp [lay, repZ]
        rw [this]; exact setRow_self w gb _ tt _ hh
      rw [e0]
      simp [Builtin.clear_, run_underlying g1]
    | succ m =>
      simp [Builtin.clear_, run_underlying g1, g2.zv, hzc, hst, lay]
  unfold Oper.wp
  show Oper.upon P _ a _ _ ((execOp a.eval ⟨none, .call { callee := .builtin .clear, args := #[x], argTypes := #[t] }, ty, pos, af, g⟩).run P w)
  rw [hrun]
  exact ⟨_, hw'.setRow_blk, hK _ ha⟩

/-- append where there is room -/
theorem es_appendR (hT : TabOK P T) {b : Bool} {d : Tmp} {ty pos af g} {t e : TypeId} {ti te : TI} {s x : Operand} {gb n c m c2 k : Nat} {A2 : Option Addr} {cur news : List Value} (hg : evalG ops env g = some b) (hb : b = true) (hd : Nat.blt d N = true)
    (hk : (kf ⟨some d, .call { callee := .builtin .append, args := #[s, x], argTypes := #[t, t] }, ty, pos, af, g⟩).wr = true)
    (ht : T.lookup t = some ti) (htd : ti.desc = .slice e) (hte : T.lookup e = some te) (hks : te.size = k) (hk0 : Nat.blt 0 k = true)
    (hs : evalE env s = some (.slice (some ⟨gb, 0, none⟩) n c)) (hx : evalE env x = some (.slice A2 m c2)) (hp : h.Perm (.blk gb e cur :: h')) (hr : Reads W h A2 m k news)
    (hroom : n + m ≤ c) (hfit : n * k + m * k ≤ cur.length)
    (hK : ES P W N kf ops rest ((d, .slice (some ⟨gb, 0, none⟩) (n + m) c) :: env) (.blk gb e (lay cur (n * k) news) :: h') K) :
    ES P W N kf ops (⟨some d, .call { callee := .builtin .append, args := #[s, x], argTypes := #[t, t] }, ty, pos, af, g⟩ :: rest) env h K := fun a ha => by
  subst hb hks
  simp only [Nat.blt_eq] at hk0
  refine opI_of_write (it := mkItem kf ops ⟨some d, .call { callee := .builtin .append, args := #[s, x], argTypes := #[t, t] }, ty, pos, af, g⟩) (evalG_ok ha hg) (wr_of hk) (fun w hw => ?_)
  have hw' := hw.perm hp
  have hh := hw'.heap_blk (g := gb) (t := e) (cs := cur) mem0
  have hws : RepS W h w := hw.weak fun _ hc => hc
  have g1 := (hT _ _ ht).1
  rw [htd] at g1
  obtain ⟨hu, i, hi, s1, s2, s3⟩ := hT _ _ hte
  have hrun : (execOp a.eval ⟨some d, .call { callee := .builtin .append, args := #[s, x], argTypes := #[t, t] }, ty, pos, af, g⟩).run P w = .ok (.value (.slice (some ⟨gb, 0, none⟩) (n + m) c)) (w.setRow gb (lay cur (n * te.size) news).toArray) := by
    simp only [execOp, resolve, invoke, builtin, Sem.run_bind, Sem.run_pure, Result.andThen_ok, List.map_toArray, List.map_cons, List.map_nil, ha.eval hs, ha.eval hx]
    cases A2 with
    | none =>
      have hn0 : news = [] := by
        cases news with
        | nil => rfl
        | cons v vs => have := (hr.2.2 w hws 0 v rfl).1; simp at this
      subst hn0
      have hm0 : m = 0 := by
        rcases Nat.eq_zero_or_pos m with h | h
        · exact h
        · have := Nat.mul_pos h hk0; have := hr.1; simp at this; omega
      subst hm0
      have e0 : w.setRow gb (lay cur (n * te.size) []).toArray = w := by
        have : lay cur (n * te.size) [] = cur := by simp [lay]
        rw [this]; exact setRow_self w gb _ e _ hh
      rw [e0]
      have hnc : n ≤ c := by omega
      simp [Builtin.append_, run_underlying g1, Go.sizeOf, typeInfo, hi, Builtin.lenOf, Builtin.firstCells, hnc, storeCells]
    | some ad =>
      have := run_append_room (P := P) w t ty e i g1 hi gb n c cur.toArray hh ad m c2 news (by rw [s1]; exact hr.1) (fun j v hj => (hr.2.2 w hws j v hj).2) hr.2.1 hroom (by simp [s1, hr.1]; omega)
      rw [this]
      simp [lay, s1]
  unfold Oper.wp
  show Oper.upon P _ a _ _ ((execOp a.eval ⟨some d, .call { callee := .builtin .append, args := #[s, x], argTypes := #[t, t] }, ty, pos, af, g⟩).run P w)
  rw [hrun]
  exact ⟨_, hw'.setRow_blk, hK _ (ha.put (d := some d) hd)⟩

/-- append(s, make(S, m)...) where there is no room -/
theorem es_appendZ (hT : TabOK P T) {b : Bool} {d : Tmp} {ty pos af g} {t ti' e : TypeId} {ti te tk : TI} {s x : Operand} {A : Option Addr} {n c m : Nat} {ik : IntKind} {cs : List Value} (hg : evalG ops env g = some b) (hb : b = true) (hd : Nat.blt d N = true)
    (hk : (kf ⟨some d, .call { callee := .builtin .append, args := #[s, x], argTypes := #[t, ti'] }, ty, pos, af, g⟩).wr = true)
    (ht : T.lookup t = some ti) (htd : ti.desc = .slice e) (hte : T.lookup e = some te) (htk : T.lookup ti' = some tk) (htkd : tk.desc = .int .i64) (hsz : (Nat.blt 0 te.zero.cells.size && (te.zero.cells.size == te.size) && te.zero.cells.toList.all Value.oneCell') = true)
    (hs : evalE env s = some (.slice A n c)) {mi : Int} (hx : evalE env x = some (.int ik mi)) (hmi : mi = (m : Int)) (hr : Reads W h A n te.size cs) (hroom : c < n + m) (hnc : n ≤ c)
    (h63 : n + m ≤ 4611686018427387903) (hbytes : (n + m) * te.bytes ≤ 140737488355328)
    (hK : ∀ g' c', n + m ≤ c' → ES P W N kf ops rest ((d, .slice (some ⟨g', 0, none⟩) (n + m) c') :: env) (.own (some ⟨g', 0, none⟩) (n + m) c' e te.size (cs ++ repZ te.zero.cells.toList m) :: h) K) :
    ES P W N kf ops (⟨some d, .call { callee := .builtin .append, args := #[s, x], argTypes := #[t, ti'] }, ty, pos, af, g⟩ :: rest) env h K := fun a ha => by
  subst hb
  simp only [Bool.and_eq_true, beq_iff_eq, Nat.blt_eq] at hsz
  obtain ⟨⟨hz0, hz1⟩, hz2⟩ := hsz
  subst hmi
  refine opI_of_write (it := mkItem kf ops ⟨some d, .call { callee := .builtin .append, args := #[s, x], argTypes := #[t, ti'] }, ty, pos, af, g⟩) (evalG_ok ha hg) (wr_of hk) (fun w hw => ?_)
  have hws : RepS W h w := hw.weak fun _ hc => hc
  have g1 := (hT _ _ ht).1
  rw [htd] at g1
  have g3 := (hT _ _ htk).1
  rw [htkd] at g3
  have g2 := hT _ _ hte
  obtain ⟨hu, i, hi, s1, s2, s3⟩ := g2
  have hm0 : 0 < m := by omega
  have hfo : (Builtin.firstCells te.size n (.slice A n c)).run P w.drew = .ok cs.toArray w.drew := by
    cases A with
    | none =>
      have : cs = [] := by
        cases hq : cs with
        | nil => rfl
        | cons v us => have := (hr.2.2 w hws 0 v (by rw [hq]; rfl)).1; simp at this
      rw [this]; simp [Builtin.firstCells]
    | some ad => exact run_firstCells_some (P := P) w.drew te.size n ad n c cs hr.1 (fun j v hj => (hr.2.2 w hws j v hj).2)
  have hwrap : IntKind.i64.wrap (m : Int) = m := IntWalk.i64_in _ (by omega)
  have hzc : ∀ q, (Builtin.zeroCells te.zero.cells q).toList = repZ te.zero.cells.toList q := fun q => by
    have := made_eq te.zero q hz0
    unfold Builtin.zeroCells
    rw [this]
  have hrun : (execOp a.eval ⟨some d, .call { callee := .builtin .append, args := #[s, x], argTypes := #[t, ti'] }, ty, pos, af, g⟩).run P w =
      .ok (.value (.slice (some ⟨w.heap.size, 0, none⟩) (n + m) (grownCap w (n + m) c e))) (w.drew.alloc (.cells (cs.toArray ++ Builtin.zeroCells te.zero.cells m ++ Builtin.zeroCells te.zero.cells (grownCap w (n + m) c e - (n + m))) e)) := by
    simp only [execOp, resolve, invoke, builtin, Sem.run_bind, Sem.run_pure, Result.andThen_ok, List.map_toArray, List.map_cons, List.map_nil, ha.eval hs, ha.eval hx]
    have hn : ¬ (n + m ≤ c) := by omega
    have h1 : ¬ ((m : Int) < 0) := by omega
    have h2 : ¬ (281474976710656 < (m : Int) * (i.bytes : Int)) := by
      have : m * te.bytes ≤ (n + m) * te.bytes := Nat.mul_le_mul_right _ (by omega)
      have h3 : ((m * te.bytes : Nat) : Int) ≤ 140737488355328 := by omega
      rw [Int.natCast_mul] at h3
      rw [s2]; omega
    have h3 : ¬ (9223372036854775807 < ((n : Int) + (m : Int))) := by omega
    have h4 : ¬ (281474976710656 < Builtin.nextslicecap (n + m) c * i.bytes) := by
      have := growslice_fits (bytes := te.bytes) (by omega : c < n + m) hbytes
      rw [s2]; omega
    have h5 : ¬ (m * i.size = 0) := by rw [s1]; have := Nat.mul_pos hm0 (by omega : 0 < te.size); omega
    have hfo' : (Builtin.firstCells i.size n (.slice A n c)).run P w.drew = .ok cs.toArray w.drew := by rw [s1]; exact hfo
    simp [Builtin.append_, run_underlying g1, run_underlying g3, Go.sizeOf, typeInfo, zeroValue, hi, s3, asInt, asIntOf, hwrap, h1, h2, h3, h4, h5, hn, Question.forced, hfo', newRow, grownCap]
  unfold Oper.wp
  show Oper.upon P _ a _ _ ((execOp a.eval ⟨some d, .call { callee := .builtin .append, args := #[s, x], argTypes := #[t, ti'] }, ty, pos, af, g⟩).run P w)
  rw [hrun]
  have hge := grownCap_ge w (n + m) c e
  have hle := grownCap_le_maxLen w (n + m) c e (by simp only [maxLen]; omega)
  have hlen : (cs ++ repZ te.zero.cells.toList m).length = (n + m) * te.size := by rw [List.length_append, hr.1, repZ_len, Nat.add_mul]; simp [hz1]
  refine ⟨_, ?_, hK w.heap.size (grownCap w (n + m) c e) hge _ (ha.put (d := some d) hd)⟩
  refine (hw.drawn (w.drawn + 1)).add (World.grownBy_alloc _ _ none) ⟨⟨hlen, .inr ⟨w.heap.size, _, _, rfl, hw.below.size, heap_alloc_new _ _, hge, hle, ?_, ?_⟩⟩, fun v hv => ?_⟩ (fun g' hg' => by simp [Chunk.keys] at hg'; simp [hg'])
  · simp only [Array.size_append, List.size_toArray, size_zeroCells, hz1, hr.1, ← Nat.add_mul]
    congr 1
    omega
  · simp only [Array.toList_append, hzc]
    rw [← hlen]
    exact List.take_left
  · rcases List.mem_append.1 hv with hv | hv
    · exact hr.2.1 v hv
    · exact repZ_one _ hz2 m v hv

theorem aw_reads {c : Code} {A : Option Addr} {n k : Nat} {cs : List Value} (hr : Reads W h A n k cs) (hk : Nat.blt 0 k = true) (hc : (0 < n → A.isSome = true) → AW P W N c env h Q) : AW P W N c env h Q := fun a w ha hw =>
  hc (fun hn => by
    have h1 : 0 < n * k := Nat.mul_pos hn (by simpa using hk)
    have h2 : 0 < cs.length := by rw [hr.1]; exact h1
    exact (hr.2.2 w (hw.weak fun _ hc => hc) 0 _ (List.getElem?_eq_getElem h2)).1) a w ha hw

theorem FSpec.conv {f : FuncId} {args : List Value} {R R' : Value → List Chunk → Prop} (hs : FSpec P W f args h R) (hc : ∀ v h', R v h' → ∀ w, Rep W h' w → ∃ k, Rep W k w ∧ R' v k) : FSpec P W f args h R' :=
  ⟨hs.1, fun w hw => (hs.2 w hw).mono fun _ w' ⟨v, h', e, r, rp⟩ => let ⟨k, rp', r'⟩ := hc v h' r w' rp; ⟨v, k, e, r', rp'⟩⟩

theorem take_lay_off {Y Z : List Value} {o : Nat} (h : o ≤ Y.length) : (lay Y o Z).take o = Y.take o := by
  unfold lay
  rw [List.append_assoc, List.take_append_of_le_length (by simp; omega), List.take_take, Nat.min_self]
theorem take_lay_mid {Y Z : List Value} {o : Nat} (h : o ≤ Y.length) : (lay Y o Z).take (o + Z.length) = Y.take o ++ Z := by
  unfold lay
  rw [List.take_append_of_le_length (by simp; omega), List.take_of_length_le (by simp; omega)]

theorem lay_after {cur v S : List Value} {a : Nat} (h : a + v.length ≤ cur.length) : lay (lay cur a v) (a + v.length) S = cur.take a ++ v ++ S ++ cur.drop (a + v.length + S.length) := by
  have h1 : (lay cur a v).take (a + v.length) = cur.take a ++ v := take_lay_mid (by omega)
  have h2 : (lay cur a v).drop (a + v.length + S.length) = cur.drop (a + v.length + S.length) := by
    unfold lay
    rw [List.drop_append, List.drop_of_length_le (by simp; omega), List.nil_append, List.drop_drop]
    congr 1
    simp
    omega
  show (lay cur a v).take (a + v.length) ++ S ++ (lay cur a v).drop (a + v.length + S.length) = _
  rw [h1, h2]
theorem lay_before {cur v S : List Value} {a : Nat} (h : a + v.length ≤ cur.length) : lay (lay cur (a + v.length) S) a v = cur.take a ++ v ++ S ++ cur.drop (a + v.length + S.length) := by
  have h1 : (lay cur (a + v.length) S).take a = cur.take a := by
    unfold lay
    rw [List.append_assoc, List.take_append_of_le_length (by simp; omega), List.take_take, Nat.min_eq_left (by omega)]
  have h2 : (lay cur (a + v.length) S).drop (a + v.length) = S ++ cur.drop (a + v.length + S.length) := by
    unfold lay
    rw [List.append_assoc, List.drop_append, List.drop_of_length_le (by simp; omega), List.nil_append]
    have : a + v.length - (cur.take (a + v.length)).length = 0 := by simp; omega
    rw [this, List.drop_zero]
  show (lay cur (a + v.length) S).take a ++ v ++ (lay cur (a + v.length) S).drop (a + v.length) = _
  rw [h1, h2]
  simp
theorem Reads.take {A n k cs} (hr : Reads W h A n k cs) {i : Nat} (hi : i ≤ n) : Reads W h A i k (cs.take (i * k)) := by
  have hle : i * k ≤ n * k := Nat.mul_le_mul_right k hi
  refine ⟨by rw [List.length_take, hr.1]; omega, fun v hv => hr.2.1 v (List.mem_of_mem_take hv), fun w hw j v hj => hr.2.2 w hw j v ?_⟩
  rw [List.getElem?_take] at hj
  split at hj
  · exact hj
  · cases hj

theorem aw_post {c : Code} {Q' : Exit → Env → List Chunk → Prop} (hq : ∀ ex e k, Q' ex e k → ∀ w, Rep W k w → ∃ k2, Rep W k2 w ∧ Q ex e k2) (hc : AW P W N c env h Q') : AW P W N c env h Q := fun a w ha hw =>
  Code.wp_mono (fun ex a' w' ⟨env', h', hq', ha', hw'⟩ => let ⟨k2, hw2, q⟩ := hq ex env' h' hq' w' hw'; ⟨env', k2, q, ha', hw2⟩) (hc a w ha hw)

theorem retq_conv {t : Tmp} {R R' : Value → List Chunk → Prop} (hr : ∀ v k, R v k → ∀ w, Rep W k w → ∃ k2, Rep W k2 w ∧ R' v k2) : ∀ ex e k, RetQ P W [.tmp t] R ex e k → ∀ w, Rep W k w → ∃ k2, Rep W k2 w ∧ RetQ P W [.tmp t] R' ex e k2 := by
  have key : ∀ (e : Env) k vs, RetVs P W k e [.tmp t] vs → ∀ k2, RetVs P W k2 e [.tmp t] vs := fun e k vs hv k2 => by
    match vs, hv with
    | [v], hv => exact ⟨hv.1, trivial⟩
  intro ex e k hq w hw
  cases ex <;> first
    | exact hq.elim
    | exact (let ⟨vs, h1, h2⟩ := hq; let ⟨k2, h3, h4⟩ := hr _ k h2 w hw; ⟨k2, h3, vs, key e k vs h1 k2, h4⟩)

/-- what is left over may be thrown away -/
def DropTo (h k : List Chunk) : Prop := ∃ J, h.Perm (J ++ k)
theorem dt_end : DropTo h h := ⟨[], List.Perm.refl _⟩
theorem dt_skip {x : Chunk} (hd : DropTo h h') : DropTo (x :: h) h' := let ⟨J, hp⟩ := hd; ⟨x :: J, hp.cons x⟩
theorem dt_cons {c : Chunk} (hp : h.Perm (c :: h2)) (hd : DropTo h2 h') : DropTo h (c :: h') := let ⟨J, hp2⟩ := hd; ⟨J, hp.trans ((hp2.cons c).trans List.perm_middle.symm)⟩
theorem dt_trans (h1 : DropTo h h2) (h3 : DropTo h2 h') : DropTo h h' := let ⟨J, p⟩ := h1; let ⟨J2, p2⟩ := h3; ⟨J ++ J2, p.trans (by rw [List.append_assoc]; exact (p2.append_left J))⟩
theorem DropTo.rep {w : World} {k : List Chunk} (hd : DropTo h k) (hw : Rep W h w) : Rep W k w := let ⟨_, p⟩ := hd; (hw.perm p).drop
theorem FSpec.dropTo {f : FuncId} {args : List Value} {R : Value → List Chunk → Prop} (hs : FSpec P W f args h fun v h' => ∃ k, DropTo h' k ∧ R v k) : FSpec P W f args h R :=
  FSpec.conv hs fun _ _ ⟨k, hd, hr⟩ _ hw => ⟨k, hd.rep hw, hr⟩
theorem QSpec.ofD {f : FuncId} {args : List Value} {v : Value} (hs : ∀ h', (∀ c ∈ h, c ∈ h') → FSpec P W f args h' fun u k => u = v ∧ DropTo k h') : QSpec P W f args h v := QSpec.of hs

/-! ### the end of a body -/
theorem ret0 {R : Value → List Chunk → Prop} (hr : R (.tuple #[]) h) : RetQ P W [] R .ret env h := ⟨[], trivial, hr⟩
theorem ret0n {R : Value → List Chunk → Prop} (hr : R (.tuple #[]) h) : RetQ P W [] R .normal env h := ⟨[], trivial, hr⟩
theorem ret1 {R : Value → List Chunk → Prop} {t : Tmp} {v : Value} (h1 : env.lookup t = some v) (hr : R v h) : RetQ P W [.tmp t] R .ret env h := ⟨[v], ⟨h1, trivial⟩, hr⟩
theorem ret2 {R : Value → List Chunk → Prop} {t t2 : Tmp} {v v2 : Value} (h1 : env.lookup t = some v) (h2 : env.lookup t2 = some v2) (hr : R (.tuple #[v, v2]) h) : RetQ P W [.tmp t, .tmp t2] R .ret env h := ⟨[v, v2], ⟨h1, h2, trivial⟩, hr⟩
theorem ret1c {R : Value → List Chunk → Prop} {a : Tmp} {t : TypeId} {ad : Addr} {v : Value} (h1 : env.lookup a = some (.pointer (some ad))) (hl : Ld P W h t ad v) (hr : R v h) : RetQ P W [.cell a t] R .ret env h := ⟨[v], ⟨⟨ad, h1, hl⟩, trivial⟩, hr⟩
theorem ret2c {R : Value → List Chunk → Prop} {a : Tmp} {t : TypeId} {t2 : Tmp} {ad : Addr} {v v2 : Value} (h1 : env.lookup a = some (.pointer (some ad))) (hl : Ld P W h t ad v) (h2 : env.lookup t2 = some v2) (hr : R (.tuple #[v, v2]) h) : RetQ P W [.cell a t, .tmp t2] R .ret env h :=
  ⟨[v, v2], ⟨⟨ad, h1, hl⟩, h2, trivial⟩, hr⟩
theorem retQ1 {v u : Value} {k : List Chunk} {J : List Chunk} {t : Tmp} (h1 : env.lookup t = some v) (he : v = u) (hp : h.Perm (J ++ k)) : RetQ P W [.tmp t] (fun x k' => x = u ∧ ∃ J, k'.Perm (J ++ k)) .ret env h := ret1 h1 ⟨he, J, hp⟩
end
end Go.Sl
