/- Rules for building, slicing, append and the like. Over any program; no condition of its own. -/
import Derived.Test.YtiefkpfamkkapaaSlE
set_option linter.unusedSimpArgs false
set_option linter.unusedVariables false
namespace Go.Sl
open Go Go.RowKit

/-! ### struct and slice literals -/
def placesV (T : Tab) : List Field → Option (List (Nat × Nat))
  | [] => some []
  | f :: fs => match T.lookup f.type, placesV T fs with
    | some ti, some ps => some ((f.offset, ti.size) :: ps)
    | _, _ => none

def fillL (place : Nat → Option (Nat × Nat)) (cells : List Value) : List (Nat × Value) → Option (List Value)
  | [] => some cells
  | (i, v) :: rest => match place i with
    | none => none
    | some (off, size) => if v.cells.size = size ∧ off + size ≤ cells.length then fillL place (lay cells off v.cells.toList) rest else none

def evalPs (env : Env) : List (Nat × Operand) → Option (List (Nat × Value))
  | [] => some []
  | (i, x) :: xs => match evalE env x, evalPs env xs with
    | some v, some vs => some ((i, v) :: vs)
    | _, _ => none

def buildV (T : Tab) (env : Env) (t : TypeId) (parts : List (Nat × Operand)) : Option (List Value) :=
  match T.lookup t with
  | some ⟨.struct fs, _, _, z⟩ => match placesV T fs.toList, evalPs env parts with
    | some ps, some vs => fillL (fun i => ps[i]?) z.cells.toList vs
    | _, _ => none
  | some ⟨.array _ e, _, _, z⟩ => match T.lookup e, evalPs env parts with
    | some ti, some vs => fillL (fun i => some (i * ti.size, ti.size)) z.cells.toList vs
    | _, _ => none
  | _ => none

section
variable {P : Program} {W : World} {T : Tab} {N : Nat} {env env' : Env} {h h' h2 : List Chunk} {kf : KF} {ops : Array Oper} {K : Env → List Chunk → Prop} {o : Oper} {rest : List Oper} {Q : Exit → Env → List Chunk → Prop}

theorem Agree.parts {a : Act} (ha : Agree N env a) : ∀ {xs : List (Nat × Operand)} {vs : List (Nat × Value)}, evalPs env xs = some vs → xs.map (fun p => (p.1, a.eval p.2)) = vs
  | [], vs, hx => by simp [evalPs] at hx; simp [hx]
  | (i, x) :: xs, vs, hx => by
    unfold evalPs at hx
    split at hx
    · rename_i v us h1 h2
      injection hx with hx
      subst hx
      simp [ha.eval h1, ha.parts h2]
    · cases hx

theorem places_run (hT : TabOK P T) (w : World) : ∀ {fs : List Field} {ps : List (Nat × Nat)}, placesV T fs = some ps →
    (fs.mapM (fun f : Field => (do pure (f.offset, ← Go.sizeOf f.type) : Sem (Nat × Nat)))).run P w = .ok ps w
  | [], ps, hp => by simp [placesV] at hp; subst hp; rfl
  | f :: fs, ps, hp => by
    unfold placesV at hp
    split at hp
    · rename_i ti qs h1 h2
      injection hp with hp
      subst hp
      have g := hT _ _ h1
      simp only [List.mapM_cons, Sem.run_bind, g.sz, Result.andThen_ok, Sem.run_pure, places_run hT w h2]
    · cases hp

theorem lay_set (cells : List Value) (vs : List Value) : ∀ off, off + vs.length ≤ cells.length →
    (vs.zipIdx.foldl (fun cs (p : Value × Nat) => cs.set (off + p.2) p.1) cells) = lay cells off vs := by
  have key : ∀ (vs : List Value) (k off : Nat) (cells : List Value), off + k + vs.length ≤ cells.length →
      ((vs.zipIdx k).foldl (fun cs (p : Value × Nat) => cs.set (off + p.2) p.1) cells) = lay cells (off + k) vs := by
    intro vs
    induction vs with
    | nil => intro k off cells _; simp [lay]
    | cons v vs ih =>
      intro k off cells hl
      simp only [List.length_cons] at hl
      rw [List.zipIdx_cons, List.foldl_cons, ih (k + 1) off _ (by simp; omega)]
      have := list_seg_step cells (off + k) v vs (by omega)
      simpa [lay, Nat.add_assoc] using this
  intro off hl
  have := key vs 0 off cells (by omega)
  simpa using this

theorem fold_set (off : Nat) : ∀ (l : List (Value × Nat)) (cells : Array Value), (l.foldl (fun cs (p : Value × Nat) => cs.setIfInBounds (off + p.2) p.1) cells).toList = l.foldl (fun cs (p : Value × Nat) => cs.set (off + p.2) p.1) cells.toList
  | [], _ => rfl
  | p :: l, cells => by rw [List.foldl_cons, List.foldl_cons, fold_set off l]; simp

theorem fill_eq (place : Nat → Option (Nat × Nat)) : ∀ (parts : List (Nat × Value)) (cells : List Value) (cells' : List Value), fillL place cells parts = some cells' →
    Instr.fill place cells.toArray parts = some cells'.toArray
  | [], cells, cells', hf => by simp [fillL] at hf; simp [Instr.fill, hf]
  | (i, v) :: rest, cells, cells', hf => by
    unfold fillL at hf
    unfold Instr.fill
    split at hf
    · cases hf
    · rename_i off size hp
      split at hf
      · rename_i hc
        simp only [hp, hc.1, ne_eq, not_true_eq_false, List.size_toArray, decide_false, Bool.false_or, decide_eq_true_eq]
        rw [if_neg (by simp; omega)]
        have e : (v.cells.zipIdx.foldl (fun cs (p : Value × Nat) => cs.setIfInBounds (off + p.2) p.1) cells.toArray) = (lay cells off v.cells.toList).toArray := by
          rw [← lay_set cells v.cells.toList off (by simp [hc.1]; exact hc.2)]
          apply Array.ext'
          rw [← Array.foldl_toList, fold_set]
          simp
        have := fill_eq place rest _ _ hf
        rw [← this, ← e]
      · cases hf

theorem es_build (hT : TabOK P T) {b : Bool} {d : Tmp} {ty pos af g} {t : TypeId} {parts : Array (Nat × Operand)} {cs : List Value} (hg : evalG ops env g = some b) (hb : b = true) (hd : Nat.blt d N = true)
    (hv : buildV T env t parts.toList = some cs)
    (hK : ES P W N kf ops rest ((d, .agg cs.toArray) :: env) h K) : ES P W N kf ops (⟨some d, .build t parts, ty, pos, af, g⟩ :: rest) env h K :=
  es_run hg hb hd (fun a ha w => by
    have ep : ∀ vs, evalPs env parts.toList = some vs → (parts.map fun (p : Nat × Operand) => (p.1, a.eval p.2)).toList = vs := fun vs h => by rw [← ha.parts h]; simp
    unfold buildV at hv
    split at hv
    · rename_i fs s bb z hl
      have gd := hT _ _ hl
      split at hv
      · rename_i ps vs h1 h2
        have hf := fill_eq _ _ _ _ hv
        have hp := places_run hT w h1
        have hu := gd.1
        have e := ep vs h2
        simp only [execOp, Instr.build, Sem.run_bind, gd.zv, Result.andThen_ok, run_underlying hu, Array.mapM_eq_mapM_toList, Sem.run_map, hp, e]
        have hf' : Instr.fill (fun x => ps.toArray[x]?) z.cells vs = some cs.toArray := by simpa using hf
        rw [hf']
        rfl
      · cases hv
    · rename_i len e s bb z hl
      have gd := hT _ _ hl
      split at hv
      · rename_i ti vs h1 h2
        have gt := hT _ _ h1
        have hf := fill_eq _ _ _ _ hv
        have hu := gd.1
        have e := ep vs h2
        simp only [execOp, Instr.build, Sem.run_bind, gd.zv, Result.andThen_ok, run_underlying hu, gt.sz, e]
        have hf' : Instr.fill (fun i => some (i * ti.size, ti.size)) z.cells vs = some cs.toArray := by simpa using hf
        rw [hf']
        rfl
      · cases hv
    · cases hv) hK

def repZ (z : List Value) : Nat → List Value
  | 0 => []
  | n + 1 => z ++ repZ z n

theorem repZ_len (z : List Value) : ∀ n, (repZ z n).length = n * z.length
  | 0 => by simp [repZ]
  | n + 1 => by simp [repZ, repZ_len z n, Nat.add_mul, Nat.add_comm]

theorem repZ_at (z : List Value) (hz : 0 < z.length) : ∀ (n j : Nat), j < n * z.length → (repZ z n)[j]? = z[j % z.length]?
  | 0, j, h => by omega
  | n + 1, j, h => by
    rw [repZ]
    by_cases hj : j < z.length
    · rw [List.getElem?_append_left hj, Nat.mod_eq_of_lt hj]
    · rw [List.getElem?_append_right (by omega), repZ_at z hz n _ (by rw [Nat.add_mul] at h; omega)]
      congr 1
      rw [← Nat.mod_eq_sub_mod (by omega)]

theorem made_eq (z : Value) (n : Nat) (hz : 0 < z.cells.size) : (Array.range (n * z.cells.size)).map (fun i => z.cells[i % z.cells.size]!) = (repZ z.cells.toList n).toArray := by
  apply Array.ext'
  apply List.ext_getElem?
  intro j
  by_cases hj : j < n * z.cells.size
  · have hm := Nat.mod_lt j hz
    rw [show (repZ z.cells.toList n).toArray.toList = repZ z.cells.toList n from rfl, repZ_at _ (by simpa using hz) n j (by simpa using hj)]
    simp [hj, List.getElem?_range, hm]
  · have h1 : (repZ z.cells.toList n)[j]? = none := List.getElem?_eq_none (by rw [repZ_len]; simpa using hj)
    simp [h1]
    omega

theorem repZ_one (z : List Value) (h1 : z.all Value.oneCell' = true) : ∀ n, ∀ v ∈ repZ z n, v.oneCell' = true
  | 0, v, hv => by simp [repZ] at hv
  | n + 1, v, hv => by
    rw [repZ, List.mem_append] at hv
    rcases hv with hv | hv
    · exact List.all_eq_true.1 h1 v hv
    · exact repZ_one z h1 n v hv

theorem es_buildSlice (hT : TabOK P T) {b : Bool} {d : Tmp} {ty pos af g} {t e : TypeId} {ti te : TI} {len : Nat} {parts : Array (Nat × Operand)} {vs : List (Nat × Value)} {cs : List Value} (hg : evalG ops env g = some b) (hb : b = true) (hd : Nat.blt d N = true)
    (hk : (kf ⟨some d, .buildSlice t len parts, ty, pos, af, g⟩).al = true) (ht : T.lookup t = some ti) (htd : ti.desc = .slice e) (hte : T.lookup e = some te) (hsz : (Nat.blt 0 te.zero.cells.size && (te.zero.cells.size == te.size) && Nat.ble (len * te.size) 16777216) = true)
    (hv : evalPs env parts.toList = some vs) (hf : fillL (fun i => some (i * te.size, te.size)) (repZ te.zero.cells.toList len) vs = some cs) (hl : (cs.length == len * te.size) = true) (h1 : cs.all Value.oneCell' = true)
    (hK : ∀ g', ES P W N kf ops rest ((d, .slice (some ⟨g', 0, none⟩) len len) :: env) (.own (some ⟨g', 0, none⟩) len len e te.size cs :: h) K) : ES P W N kf ops (⟨some d, .buildSlice t len parts, ty, pos, af, g⟩ :: rest) env h K := fun a ha => by
  subst hb
  simp only [Bool.and_eq_true, beq_iff_eq, Nat.ble_eq, Nat.blt_eq] at hsz hl
  obtain ⟨⟨hz0, hz1⟩, hz2⟩ := hsz
  refine opI_of_alloc (it := mkItem kf ops ⟨some d, .buildSlice t len parts, ty, pos, af, g⟩) (evalG_ok ha hg) (al_of hk) (fun w hw => ?_)
  have g1 := hT _ _ ht
  have g2 := hT _ _ hte
  have hu := g1.1
  rw [htd] at hu
  have ep : (parts.map fun (p : Nat × Operand) => (p.1, a.eval p.2)).toList = vs := by rw [← ha.parts hv]; simp
  have hf' := fill_eq _ _ _ _ hf
  have hrun : (execOp a.eval ⟨some d, .buildSlice t len parts, ty, pos, af, g⟩).run P w = .ok (.value (.slice (some ⟨w.heap.size, 0, none⟩) len len)) (w.alloc (.cells cs.toArray e)) := by
    have hm := made_eq te.zero len hz0
    have hlen : ¬ len * te.size > 2 ^ 24 := by omega
    by_cases h0 : len * te.size = 0
    · have hlz : len = 0 := by
        rcases Nat.eq_zero_or_pos len with h | h
        · exact h
        · have := Nat.mul_pos h (by omega : 0 < te.size); omega
      subst hlz
      have hf2 : Instr.fill (fun i => some (i * te.size, te.size)) #[] vs = some cs.toArray := hf'
      simp only [execOp, Instr.buildSlice, Sem.run_bind, run_underlying hu, Result.andThen_ok, g2.sz, if_neg hlen, if_pos h0, Sem.run_pure, ep]
      have e0 : (Array.range (0 * te.size)).map (fun i => (#[] : Array Value)[i % (#[] : Array Value).size]!) = #[] := by rw [h0]; simp
      rw [e0, hf2]
      simp [newRow]
    · simp only [execOp, Instr.buildSlice, Sem.run_bind, run_underlying hu, Result.andThen_ok, g2.sz, if_neg hlen, if_neg h0, Sem.run_pure, g2.zv, ep]
      have hm2 : (Array.range (len * te.size)).map (fun i => te.zero.cells[i % te.zero.cells.size]!) = (repZ te.zero.cells.toList len).toArray := by rw [← hm, hz1]
      rw [hm2, hf']
      simp [newRow]
  unfold Oper.wp
  show Oper.upon P _ a _ _ ((execOp a.eval ⟨some d, .buildSlice t len parts, ty, pos, af, g⟩).run P w)
  rw [hrun]
  refine ⟨[.own (some ⟨w.heap.size, 0, none⟩) len len e te.size cs], ?_, hK w.heap.size _ (ha.put (d := some d) hd)⟩
  refine hw.alloc_own e len te.size cs hl ?_ (fun v hv => List.all_eq_true.1 h1 v hv)
  have : len ≤ len * te.size := Nat.le_mul_of_pos_right _ (by omega)
  simp only [maxLen]; omega

/-! ### slicing -/
def cutA (A : Option Addr) (c lo k : Nat) : Option Addr := if c = lo then A else A.map (·.add (lo * k))

theorem Reads.cut {A n c k cs} (hr : Reads W h A n k cs) (hnc : n ≤ c) {lo hi : Nat} (h1 : lo ≤ hi) (h2 : hi ≤ n) : Reads W h (cutA A c lo k) (hi - lo) k ((cs.drop (lo * k)).take ((hi - lo) * k)) := by
  have hle : hi * k ≤ n * k := Nat.mul_le_mul_right k h2
  have hsub : (hi - lo) * k = hi * k - lo * k := Nat.sub_mul _ _ _
  refine ⟨?_, fun v hv => hr.2.1 v (List.mem_of_mem_drop (List.mem_of_mem_take hv)), fun w hw j v hj => ?_⟩
  · simp only [List.length_take, List.length_drop, hr.1]; omega
  · have hj' := hj
    simp only [List.getElem?_take, List.getElem?_drop] at hj
    split at hj
    · rename_i hlt
      have := hr.2.2 w hw _ v hj
      unfold cutA
      split
      · rename_i hc
        exfalso
        have : hi - lo = 0 := by omega
        rw [this] at hlt; omega
      · obtain ⟨e1, e2⟩ := this
        cases A with
        | none => simp at e1
        | some ad =>
          refine ⟨rfl, ?_⟩
          rw [← e2]
          congr 1
          show (ad.add (lo * k)).add j = ad.add (lo * k + j)
          have := adr_add (some ad) (lo * k) j
          simpa [adr] using this
    · cases hj

theorem run_slice (hT : TabOK P T) {t e : TypeId} {ti te : TI} {A : Option Addr} {n c lo hi : Nat} (ht : T.lookup t = some ti) (htd : ti.desc = .slice e) (hte : T.lookup e = some te)
    (h1 : lo ≤ hi) (h2 : hi ≤ c) {lv hv : Option Value} (hlo : (lv = none ∧ lo = 0) ∨ ∃ k, lv = some (.int k lo)) (hhi : (hv = none ∧ hi = n) ∨ ∃ k, hv = some (.int k hi)) (w : World) :
    (Instr.sliceAt t (.slice A n c) lv hv none).run P w = .ok (.slice (cutA A c lo te.size) (hi - lo) (c - lo)) w := by
  have g1 := hT _ _ ht
  have g2 := hT _ _ hte
  have hu := g1.1
  rw [htd] at hu
  simp only [Instr.sliceAt, Sem.run_bind, run_underlying hu, Result.andThen_ok, Instr.slice, g2.sz]
  have hb : (Instr.sliceBounds true n c lv hv none).run P w = .ok (lo, hi, c) w := by
    rcases hlo with ⟨rfl, rfl⟩ | ⟨k1, rfl⟩ <;> rcases hhi with ⟨rfl, rfl⟩ | ⟨k2, rfl⟩ <;>
      simp [Instr.sliceBounds, Instr.sliceBound, asIntOf, h1, h2]
  simp only [hb, Result.andThen_ok, Sem.run_pure, cutA]

def optE (env : Env) : Option Operand → Option (Option Value)
  | none => some none
  | some x => (evalE env x).map some

theorem es_slice (hT : TabOK P T) {b : Bool} {d : Tmp} {ty pos af g} {t e : TypeId} {ti te : TI} {x : Operand} {lo hi : Option Operand} {A : Option Addr} {n c : Nat} {lv hv : Option Value} (hg : evalG ops env g = some b) (hb : b = true) (hd : Nat.blt d N = true)
    (ht : T.lookup t = some ti) (htd : ti.desc = .slice e) (hte : T.lookup e = some te) (hx : evalE env x = some (.slice A n c)) (hlv : optE env lo = some lv) (hhv : optE env hi = some hv)
    (l r : Nat) (hl : (lv = none ∧ l = 0) ∨ ∃ k, lv = some (.int k l)) (hr : (hv = none ∧ r = n) ∨ ∃ k, hv = some (.int k r)) (h1 : l ≤ r) (h2 : r ≤ c) {A' : Option Addr} (hA : cutA A c l te.size = A')
    (hK : ES P W N kf ops rest ((d, .slice A' (r - l) (c - l)) :: env) h K) : ES P W N kf ops (⟨some d, .slice t x lo hi none, ty, pos, af, g⟩ :: rest) env h K :=
  es_run hg hb hd (fun a ha w => by
    have e1 : ∀ (o : Option Operand) v, optE env o = some v → o.map a.eval = v := fun o v ho => by
      cases o with
      | none => simpa [optE] using ho
      | some x =>
        simp only [optE] at ho
        cases hq : evalE env x with
        | none => simp [hq] at ho
        | some u => simp only [hq, Option.map_some, Option.some.injEq] at ho; simp [ha.eval hq, ho]
    have := run_slice hT ht htd hte (A := A) (n := n) h1 h2 hl hr w
    rw [hA] at this
    simp only [execOp, ha.eval hx, e1 _ _ hlv, e1 _ _ hhv, Option.map_none, Sem.run_bind, this, Result.andThen_ok, Sem.run_pure]) hK

theorem cutA_zero (A : Option Addr) (c k : Nat) : cutA A c 0 k = A := by
  unfold cutA
  split
  · rfl
  · cases A <;> simp [Addr.add]
theorem cutA_ne {g c lo k : Nat} (hne : c ≠ lo) : cutA (some ⟨g, 0, none⟩) c lo k = some ⟨g, lo * k, none⟩ := by
  unfold cutA
  rw [if_neg hne]
  simp [add_blk]

/-- s[:hi] -/
theorem es_sliceTo (hT : TabOK P T) {b : Bool} {d : Tmp} {ty pos af g} {t e : TypeId} {ti te : TI} {x hi : Operand} {A : Option Addr} {n c : Nat} {k : IntKind} {r : Int} (hg : evalG ops env g = some b) (hb : b = true) (hd : Nat.blt d N = true)
    (ht : T.lookup t = some ti) (htd : ti.desc = .slice e) (hte : T.lookup e = some te) (hx : evalE env x = some (.slice A n c)) (hhv : evalE env hi = some (.int k r))
    (h1 : 0 ≤ r) (h2 : r ≤ c)
    (hK : ES P W N kf ops rest ((d, .slice A r.toNat c) :: env) h K) : ES P W N kf ops (⟨some d, .slice t x none (some hi) none, ty, pos, af, g⟩ :: rest) env h K := by
  obtain ⟨r, rfl⟩ := Int.eq_ofNat_of_zero_le h1
  exact es_slice hT hg hb hd ht htd hte hx (lo := none) (hi := some hi) rfl (by simp only [optE, hhv]; rfl) 0 r (.inl ⟨rfl, rfl⟩) (.inr ⟨k, rfl⟩) (Nat.zero_le _) (by omega) (cutA_zero A c _) (by simpa using hK)

/-- s[lo:] -/
theorem es_sliceFrom (hT : TabOK P T) {b : Bool} {d : Tmp} {ty pos af g} {t e : TypeId} {ti te : TI} {x lo : Operand} {A A' : Option Addr} {n c : Nat} {k : IntKind} {l : Int} (hg : evalG ops env g = some b) (hb : b = true) (hd : Nat.blt d N = true)
    (ht : T.lookup t = some ti) (htd : ti.desc = .slice e) (hte : T.lookup e = some te) (hx : evalE env x = some (.slice A n c)) (hlv : evalE env lo = some (.int k l))
    (h1 : 0 ≤ l) (h2 : l ≤ n) (hnc : n ≤ c) (hA : cutA A c l.toNat te.size = A')
    (hK : ES P W N kf ops rest ((d, .slice A' (n - l.toNat) (c - l.toNat)) :: env) h K) : ES P W N kf ops (⟨some d, .slice t x (some lo) none none, ty, pos, af, g⟩ :: rest) env h K := by
  obtain ⟨l, rfl⟩ := Int.eq_ofNat_of_zero_le h1
  exact es_slice hT hg hb hd ht htd hte hx (lo := some lo) (hi := none) (by simp only [optE, hlv]; rfl) rfl l n (.inr ⟨k, rfl⟩) (.inl ⟨rfl, rfl⟩) (by omega) hnc hA hK

/-- s[lo:hi] -/
theorem es_sliceBoth (hT : TabOK P T) {b : Bool} {d : Tmp} {ty pos af g} {t e : TypeId} {ti te : TI} {x lo hi : Operand} {A A' : Option Addr} {n c : Nat} {k k2 : IntKind} {l r : Int} (hg : evalG ops env g = some b) (hb : b = true) (hd : Nat.blt d N = true)
    (ht : T.lookup t = some ti) (htd : ti.desc = .slice e) (hte : T.lookup e = some te) (hx : evalE env x = some (.slice A n c)) (hlv : evalE env lo = some (.int k l)) (hhv : evalE env hi = some (.int k2 r))
    (h1 : 0 ≤ l) (h2 : l ≤ r) (h3 : r ≤ c) (hA : cutA A c l.toNat te.size = A')
    (hK : ES P W N kf ops rest ((d, .slice A' (r.toNat - l.toNat) (c - l.toNat)) :: env) h K) : ES P W N kf ops (⟨some d, .slice t x (some lo) (some hi) none, ty, pos, af, g⟩ :: rest) env h K := by
  obtain ⟨l, rfl⟩ := Int.eq_ofNat_of_zero_le h1
  obtain ⟨r, rfl⟩ := Int.eq_ofNat_of_zero_le (show 0 ≤ r by omega)
  exact es_slice hT hg hb hd ht htd hte hx (lo := some lo) (hi := some hi) (by simp only [optE, hlv]; rfl) (by simp only [optE, hhv]; rfl) l r (.inr ⟨k, rfl⟩) (.inr ⟨k2, rfl⟩) (by omega) (by omega) hA hK

/-- a region whose order is drawn, walked in the order of its text -/
theorem aw_draw {id : Nat} {ol : List Oper} (q al : List FuncId) (hm : P.follows .mixedOrders = true)
    (hp : (Region.noSelect ol.toArray && planOK (kdOf (kfD q al) ol.toArray) ol.toArray (Region.before ol.toArray) (List.range ol.length) (Array.replicate ol.length false)) = true)
    (hes : ES P W N (kfD q al) ol.toArray ol env h fun env' h' => Q .normal env' h') : AW P W N (.region id ol.toArray true) env h Q := by
  refine aw_plan q al (List.range ol.length) hm ?_ ?_ hes
  · simpa using hp
  · have key : ∀ (l m : List Oper), (List.range' m.length l.length).filterMap ((m ++ l)[·]?) = l := by
      intro l
      induction l with
      | nil => intro m; rfl
      | cons o l ih =>
        intro m
        rw [List.length_cons, List.range'_succ, List.filterMap_cons]
        have : (m ++ o :: l)[m.length]? = some o := by simp
        rw [this]
        have e := ih (m ++ [o])
        simp only [List.length_append, List.length_cons, List.length_nil, List.append_assoc, List.singleton_append] at e
        simp only [List.cons.injEq, true_and]
        exact e
    have := key ol []
    rw [List.range_eq_range']
    simpa using this

/-! ### append -/
theorem run_append_rd {w : World} {B : Nat} {t ty e : TypeId} {te : TI} (ht : P.underlying t = some (.slice e)) (hte : TGood P e te) (hzs : te.zero.cells.size = te.size) (hsz : 0 < te.size)
    {A A2 : Option Addr} {n c m c2 : Nat} {cs news : List Value} (hown : w.ownsRow B e te.size (.slice A n c) n cs) (hl : news.length = m * te.size) (hnews : ∀ j v, news[j]? = some v → A2.isSome = true ∧ w.cell? (adr A2 j) = some v) (h1 : ∀ v ∈ news, v.oneCell' = true)
    (h63 : n + m ≤ maxLen) (hbytes : (n + m) * te.bytes ≤ 140737488355328) (hbase : B ≤ w.heap.size) :
    ∃ A' c' w', (Builtin.append_ #[t, t] ty #[.slice A n c, .slice A2 m c2]).run P w = .ok (.slice A' (n + m) c') w' ∧ w'.ownsRow B e te.size (.slice A' (n + m) c') (n + m) (cs ++ news) ∧ w.grownBy w' (A.map (·.block)) ∧
      (A'.map (·.block) = A.map (·.block) ∨ A'.map (·.block) = some w.heap.size) := by
  obtain ⟨hu, i, hi, s1, s2, s3⟩ := hte
  have hob : ∀ (A : Option Addr) n c, (Value.slice A n c).ownBlock = A.map (·.block) := fun A n c => by cases A <;> rfl
  cases A2 with
  | some ad =>
    have hn2 : ∀ j v, news[j]? = some v → w.cell? (ad.add j) = some v := fun j v hv => (hnews j v hv).2
    obtain ⟨v', w', k1, k2, k3, _, k5⟩ := run_append_own_at (P := P) w B t ty e i te.zero te.size te.bytes ht hi s3 s1 s2 hzs hsz _ n cs hown ad m c2 news hl hn2 h1 h63 hbytes hbase
    rcases k2.2 with ⟨rfl, h0⟩ | ⟨gg, cap, cur, rfl, rst⟩
    · refine ⟨none, 0, w', by rw [h0]; exact k1, by rw [h0] at k2 ⊢; exact k2, by simpa [hob] using k3, by simpa [hob] using k5⟩
    · exact ⟨some ⟨gg, 0, none⟩, cap, w', k1, k2, by simpa [hob] using k3, by simpa [hob] using k5⟩
  | none =>
    have hn0 : news = [] := by
      cases news with
      | nil => rfl
      | cons v vs => have := (hnews 0 v rfl).1; simp at this
    subst hn0
    have hm0 : m = 0 := by
      rcases Nat.eq_zero_or_pos m with h | h
      · exact h
      · have := Nat.mul_pos h hsz; simp at hl; omega
    subst hm0
    refine ⟨A, c, w, ?_, by simpa using hown, World.grownBy.refl w _, .inl rfl⟩
    rcases hown.2 with ⟨hv, hn⟩ | ⟨g, cap, cur, hv, _, _, hnc, _⟩
    · injection hv with e1 e2 e3
      subst e1 e2 e3
      simp [Builtin.append_, run_underlying ht, Go.sizeOf, typeInfo, hi, Builtin.lenOf, Builtin.firstCells]
    · injection hv with e1 e2 e3
      subst e1 e3
      simp [Builtin.append_, run_underlying ht, Go.sizeOf, typeInfo, hi, Builtin.lenOf, Builtin.firstCells, hnc, storeCells]

theorem append_rep {w w' : World} {A A' : Option Addr} {n c m c' k : Nat} {e : TypeId} {cs news : List Value} (hw : Rep W (.own A n c e k cs :: h) w)
    (k2 : w'.ownsRow W.heap.size e k (.slice A' (n + m) c') (n + m) (cs ++ news)) (k3 : w.grownBy w' (A.map (·.block))) (k5 : A'.map (·.block) = A.map (·.block) ∨ A'.map (·.block) = some w.heap.size) (h1 : ∀ v ∈ news, v.oneCell' = true) :
    Rep W (.own A' (n + m) c' e k (cs ++ news) :: h) w' := by
  have ho := hw.holds _ mem0
  refine hw.change k3 (fun g hg => by simp only [Chunk.keys]; rw [hg]; simp) ⟨k2, fun v hv => ?_⟩ (fun g hg => ?_)
  · rcases List.mem_append.1 hv with hv | hv
    · exact ho.2 v hv
    · exact h1 v hv
  · simp only [Chunk.keys] at hg ⊢
    rcases k5 with k5 | k5
    · rw [k5] at hg; exact .inl hg
    · rw [k5] at hg; right; simp at hg; omega

theorem es_append (hT : TabOK P T) {b : Bool} {d : Tmp} {ty pos af g} {t e : TypeId} {ti te : TI} {s x : Operand} {A A2 : Option Addr} {n c m c2 : Nat} {cs news : List Value} (hg : evalG ops env g = some b) (hb : b = true) (hd : Nat.blt d N = true)
    (hk : (kf ⟨some d, .call { callee := .builtin .append, args := #[s, x], argTypes := #[t, t] }, ty, pos, af, g⟩).wr = true)
    (ht : T.lookup t = some ti) (htd : ti.desc = .slice e) (hte : T.lookup e = some te) (hsz : (Nat.blt 0 te.size && (te.zero.cells.size == te.size)) = true)
    (hs : evalE env s = some (.slice A n c)) (hx : evalE env x = some (.slice A2 m c2)) (hp : h.Perm (.own A n c e te.size cs :: h')) (hr : Reads W h A2 m te.size news)
    (h63 : n + m ≤ 9223372036854775807) (hbytes : (n + m) * te.bytes ≤ 140737488355328)
    (hK : ∀ A' c', ES P W N kf ops rest ((d, .slice A' (n + m) c') :: env) (.own A' (n + m) c' e te.size (cs ++ news) :: h') K) :
    ES P W N kf ops (⟨some d, .call { callee := .builtin .append, args := #[s, x], argTypes := #[t, t] }, ty, pos, af, g⟩ :: rest) env h K := fun a ha => by
  subst hb
  simp only [Bool.and_eq_true, beq_iff_eq, Nat.blt_eq] at hsz
  refine opI_of_write (it := mkItem kf ops ⟨some d, .call { callee := .builtin .append, args := #[s, x], argTypes := #[t, t] }, ty, pos, af, g⟩) (evalG_ok ha hg) (wr_of hk) (fun w hw => ?_)
  have hw' := hw.perm hp
  have g1 := (hT _ _ ht).1
  rw [htd] at g1
  have hws : RepS W h w := hw.weak fun _ hc => hc
  obtain ⟨A', c', w', k1, k2, k3, k5⟩ := run_append_rd (P := P) (w := w) (B := W.heap.size) (ty := ty) (c2 := c2) g1 (hT _ _ hte) hsz.2 hsz.1 (hw'.holds _ mem0).1 hr.1 (hr.2.2 w hws) hr.2.1 (by simpa [maxLen] using h63) hbytes hw.below.size
  have hrun : (execOp a.eval ⟨some d, .call { callee := .builtin .append, args := #[s, x], argTypes := #[t, t] }, ty, pos, af, g⟩).run P w = .ok (.value (.slice A' (n + m) c')) w' := by
    simp [execOp, resolve, invoke, builtin, ha.eval hs, ha.eval hx, k1]
  unfold Oper.wp
  show Oper.upon P _ a _ _ ((execOp a.eval ⟨some d, .call { callee := .builtin .append, args := #[s, x], argTypes := #[t, t] }, ty, pos, af, g⟩).run P w)
  rw [hrun]
  exact ⟨_, append_rep hw' k2 k3 k5 hr.2.1, hK A' c' _ (ha.put (d := some d) hd)⟩

/-- .. in place or not, of what the region has made -/
theorem es_appendG (hT : TabOK P T) {b : Bool} {d : Tmp} {ty pos af g} {t e : TypeId} {ti te : TI} {s x : Operand} {A A2 : Option Addr} {n c m c2 : Nat} {cs news : List Value} (hg : evalG ops env g = some b) (hb : b = true) (hd : Nat.blt d N = true)
    (hk : (kf ⟨some d, .call { callee := .builtin .append, args := #[s, x], argTypes := #[t, t] }, ty, pos, af, g⟩).gr = true)
    (ht : T.lookup t = some ti) (htd : ti.desc = .slice e) (hte : T.lookup e = some te) (hsz : (Nat.blt 0 te.size && (te.zero.cells.size == te.size)) = true)
    (hs : evalE env s = some (.slice A n c)) (hx : evalE env x = some (.slice A2 m c2)) (hp : h.Perm (.own A n c e te.size cs :: h')) (hr : Reads W h A2 m te.size news)
    (hkp : ∀ c ∈ kf.keep, c ∈ h') (h63 : n + m ≤ 9223372036854775807) (hbytes : (n + m) * te.bytes ≤ 140737488355328)
    (hK : ∀ A' c', ES P W N kf ops rest ((d, .slice A' (n + m) c') :: env) (.own A' (n + m) c' e te.size (cs ++ news) :: h') K) :
    ES P W N kf ops (⟨some d, .call { callee := .builtin .append, args := #[s, x], argTypes := #[t, t] }, ty, pos, af, g⟩ :: rest) env h K := fun a ha => by
  subst hb
  simp only [Bool.and_eq_true, beq_iff_eq, Nat.blt_eq] at hsz
  refine opI_of_grow (it := mkItem kf ops ⟨some d, .call { callee := .builtin .append, args := #[s, x], argTypes := #[t, t] }, ty, pos, af, g⟩) (evalG_ok ha hg) (gr_of hk) (fun w hw => ?_)
  have hw' := hw.perm hp
  have g1 := (hT _ _ ht).1
  rw [htd] at g1
  have hws : RepS W h w := hw.weak fun _ hc => hc
  obtain ⟨A', c', w', k1, k2, k3, k5⟩ := run_append_rd (P := P) (w := w) (B := W.heap.size) (ty := ty) (c2 := c2) g1 (hT _ _ hte) hsz.2 hsz.1 (hw'.holds _ mem0).1 hr.1 (hr.2.2 w hws) hr.2.1 (by simpa [maxLen] using h63) hbytes hw.below.size
  have hrun : (execOp a.eval ⟨some d, .call { callee := .builtin .append, args := #[s, x], argTypes := #[t, t] }, ty, pos, af, g⟩).run P w = .ok (.value (.slice A' (n + m) c')) w' := by
    simp [execOp, resolve, invoke, builtin, ha.eval hs, ha.eval hx, k1]
  unfold Oper.wp
  show Oper.upon P _ a _ _ ((execOp a.eval ⟨some d, .call { callee := .builtin .append, args := #[s, x], argTypes := #[t, t] }, ty, pos, af, g⟩).run P w)
  rw [hrun]
  exact ⟨_, ⟨append_rep hw' k2 k3 k5 hr.2.1, fun c hc => List.mem_cons_of_mem _ (hkp c hc)⟩, hK A' c' _ (ha.put (d := some d) hd)⟩

/-- onto nil -/
theorem es_append0 (hT : TabOK P T) {b : Bool} {d : Tmp} {ty pos af g} {t e : TypeId} {ti te : TI} {s x : Operand} {A2 : Option Addr} {m c2 : Nat} {news : List Value} (hg : evalG ops env g = some b) (hb : b = true) (hd : Nat.blt d N = true)
    (hk : (kf ⟨some d, .call { callee := .builtin .append, args := #[s, x], argTypes := #[t, t] }, ty, pos, af, g⟩).wr = true)
    (ht : T.lookup t = some ti) (htd : ti.desc = .slice e) (hte : T.lookup e = some te) (hsz : (Nat.blt 0 te.size && (te.zero.cells.size == te.size)) = true)
    (hs : evalE env s = some (.slice none 0 0)) (hx : evalE env x = some (.slice A2 m c2)) (hr : Reads W h A2 m te.size news)
    (h63 : m ≤ 9223372036854775807) (hbytes : m * te.bytes ≤ 140737488355328)
    (hK : ∀ A' c', ES P W N kf ops rest ((d, .slice A' m c') :: env) (.own A' m c' e te.size news :: h) K) :
    ES P W N kf ops (⟨some d, .call { callee := .builtin .append, args := #[s, x], argTypes := #[t, t] }, ty, pos, af, g⟩ :: rest) env h K := fun a ha => by
  subst hb
  simp only [Bool.and_eq_true, beq_iff_eq, Nat.blt_eq] at hsz
  refine opI_of_write (it := mkItem kf ops ⟨some d, .call { callee := .builtin .append, args := #[s, x], argTypes := #[t, t] }, ty, pos, af, g⟩) (evalG_ok ha hg) (wr_of hk) (fun w hw => ?_)
  have hw' := hw.own_nil e te.size
  have g1 := (hT _ _ ht).1
  rw [htd] at g1
  have hws : RepS W h w := hw.weak fun _ hc => hc
  obtain ⟨A', c', w', k1, k2, k3, k5⟩ := run_append_rd (P := P) (w := w) (B := W.heap.size) (ty := ty) (c2 := c2) g1 (hT _ _ hte) hsz.2 hsz.1 (hw'.holds _ mem0).1 hr.1 (hr.2.2 w hws) hr.2.1 (by simpa [maxLen] using h63) (by simpa using hbytes) hw.below.size
  have hrun : (execOp a.eval ⟨some d, .call { callee := .builtin .append, args := #[s, x], argTypes := #[t, t] }, ty, pos, af, g⟩).run P w = .ok (.value (.slice A' (0 + m) c')) w' := by
    simp only [Nat.zero_add] at k1
    simp [execOp, resolve, invoke, builtin, ha.eval hs, ha.eval hx, k1]
  unfold Oper.wp
  show Oper.upon P _ a _ _ ((execOp a.eval ⟨some d, .call { callee := .builtin .append, args := #[s, x], argTypes := #[t, t] }, ty, pos, af, g⟩).run P w)
  rw [hrun]
  have hrep := append_rep hw' k2 k3 k5 hr.2.1
  simp only [Nat.zero_add, List.nil_append] at hrep ⊢
  exact ⟨_, hrep, hK A' c' _ (ha.put (d := some d) hd)⟩
end
end Go.Sl
