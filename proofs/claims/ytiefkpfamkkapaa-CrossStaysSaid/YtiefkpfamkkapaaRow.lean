/- The last step of a row: what the arguments read as, opened to lists of cells, and the row's answer out of a contract. Over any program; conditions stand in each statement. -/
import Derived.Test.YtiefkpfamkkapaaSlH
import Derived.Test.YtiefkpfamkkapaaRows
import Derived.OpenShut
import Derived.ChangeSame
import Derived.ProofKit
import Derived.WideKeyArgs
import Derived.Deep.Slices
import Derived.Deep.Fields
set_option linter.unusedSimpArgs false
set_option linter.unusedVariables false
namespace Go.Sl
open Go Go.RowKit Go.ChangeShapes Go.WideShapes

/-! ### leaves -/
inductive Leaf where
  | int (k : IntKind)
  | bool
  deriving DecidableEq

def Leaf.fits : Leaf → Value → Prop
  | .int k, v => ∃ n, v = .int k n ∧ (Lit.int k n).wf = true
  | .bool, v => ∃ b, v = .bool b

def FitsL : List Leaf → List Value → Prop
  | [], [] => True
  | l :: ls, v :: vs => l.fits v ∧ FitsL ls vs
  | _, _ => False

theorem FitsL.len : ∀ {ls : List Leaf} {vs : List Value}, FitsL ls vs → vs.length = ls.length
  | [], [], _ => rfl
  | l :: ls, v :: vs, h => by simp [FitsL.len h.2]
theorem FitsL.app : ∀ {ls ms : List Leaf} {vs us : List Value}, FitsL ls vs → FitsL ms us → FitsL (ls ++ ms) (vs ++ us)
  | [], _, [], _, _, h => h
  | l :: ls, _, v :: vs, _, h, h2 => ⟨h.1, FitsL.app h.2 h2⟩
theorem FitsL.one : ∀ {ls : List Leaf} {vs : List Value}, FitsL ls vs → ∀ v ∈ vs, v.oneCell' = true
  | [], [], _, v, hv => by cases hv
  | l :: ls, u :: vs, h, v, hv => by
    rcases List.mem_cons.1 hv with rfl | hv
    · cases l with
      | int k => obtain ⟨n, rfl, _⟩ := h.1; rfl
      | bool => obtain ⟨b, rfl⟩ := h.1; rfl
    · exact FitsL.one h.2 v hv

def leafFs (P : Program) (lf : TypeId → Option (List Leaf)) : List Field → Nat → Option (List Leaf)
  | [], _ => some []
  | f :: fs, o => if f.offset = o then match lf f.type with
      | some l => if P.cellsOf f.type = l.length then (match leafFs P lf fs (o + l.length) with
        | some m => some (l ++ m)
        | none => none) else none
      | none => none
    else none

def leafs (P : Program) : Nat → TypeId → Option (List Leaf)
  | 0, _ => none
  | n + 1, t => match P.underlying t with
    | some (.int k) => some [.int k]
    | some .bool => some [.bool]
    | some (.struct fs) => leafFs P (leafs P n) fs.toList 0
    | some (.array m e) => match leafs P n e with
      | some l => if P.cellsOf e = l.length then some ((List.replicate m l).flatten) else none
      | none => none
    | _ => none

section
variable {H : Type} {enc : TypeId × Value → H} {P : Program} {w : World} {base : Nat} {spare : Nat → Bool} {held : Bool}

theorem drop_take_cat {α : Type} (cs : List α) (o n : Nat) : cs.drop o = (cs.drop o).take n ++ cs.drop (o + n) := by
  rw [← List.drop_drop, List.take_append_drop]

theorem leafFs_fits {lf : TypeId → Option (List Leaf)} {cs : List Value} {m : Nat}
    (hlf : ∀ t l cs' x, lf t = some l → cs'.length = l.length → DataW.trod enc P w base spare held m t cs' = some x → FitsL l cs') :
    ∀ (fs : List Field) (o : Nat) (ls : List Leaf), leafFs P lf fs o = some ls → cs.length = o + ls.length →
      (∀ f ∈ fs, ∃ x, DataW.trod enc P w base spare held m f.type ((cs.drop f.offset).take (P.cellsOf f.type)) = some x) → FitsL ls (cs.drop o)
  | [], o, ls, hl, hlen, _ => by
    simp only [leafFs, Option.some.injEq] at hl
    subst hl
    rw [List.drop_of_length_le (by simp at hlen; omega)]
    trivial
  | f :: fs, o, ls, hl, hlen, hx => by
    unfold leafFs at hl
    split at hl
    · rename_i ho
      split at hl
      · rename_i l h1
        split at hl
        · rename_i h2
          split at hl
          · rename_i k h3
            injection hl with hl
            subst hl
            rw [List.length_append] at hlen
            obtain ⟨x, hx1⟩ := hx f (by simp)
            rw [ho, h2] at hx1
            rw [drop_take_cat cs o l.length]
            exact (hlf _ _ _ _ h1 (by simp; omega) hx1).app (leafFs_fits hlf fs (o + l.length) k h3 (by omega) (fun g hg => hx g (by simp [hg])))
          · cases hl
        · cases hl
      · cases hl
    · cases hl

theorem fits_rep {l : List Leaf} {cs : List Value} : ∀ (m : Nat), cs.length = m * l.length → (∀ i, i < m → FitsL l ((cs.drop (i * l.length)).take l.length)) → FitsL ((List.replicate m l).flatten) cs := by
  intro m
  induction m generalizing cs with
  | zero =>
    intro h _
    have : cs = [] := List.length_eq_zero_iff.1 (by simpa using h)
    subst this
    trivial
  | succ m ih =>
    intro h hi
    rw [List.replicate_succ, List.flatten_cons, ← List.take_append_drop l.length cs]
    have h0 := hi 0 (by omega)
    simp only [Nat.zero_mul, List.drop_zero] at h0
    refine h0.app (ih (by rw [List.length_drop, h, Nat.succ_mul]; omega) (fun i him => ?_))
    have := hi (i + 1) (by omega)
    rw [List.drop_drop]
    rwa [show l.length + i * l.length = (i + 1) * l.length by rw [Nat.succ_mul]; omega]

theorem leafs_fits : ∀ (n fuel : Nat) (t : TypeId) (ls : List Leaf) (cs : List Value) (x : DataW H × List MemPlace), leafs P n t = some ls → cs.length = ls.length → DataW.trod enc P w base spare held fuel t cs = some x → FitsL ls cs
  | 0, _, _, _, _, _, h, _, _ => by cases h
  | n + 1, fuel, t, ls, cs, x, h, hlen, hd => by
    unfold leafs at h
    split at h
    · rename_i k ht
      injection h with h; subst h
      obtain ⟨m, rfl, _, hw⟩ := DataW.trod_int ht hd
      exact ⟨⟨m, rfl, hw⟩, trivial⟩
    · rename_i ht
      injection h with h; subst h
      obtain ⟨b, rfl, _⟩ := DataW.trod_bool ht hd
      exact ⟨⟨b, rfl⟩, trivial⟩
    · rename_i fs ht
      obtain ⟨xs, m, rfl, _, _, hxl, hf⟩ := DataW.trod_struct ht hd
      have := leafFs_fits (enc := enc) (P := P) (w := w) (base := base) (spare := spare) (held := held) (cs := cs) (m := m) (fun t l cs' x h1 h2 h3 => leafs_fits n m t l cs' x h1 h2 h3) fs.toList 0 ls h (by omega) (fun f hfm => by
        obtain ⟨i, hi⟩ := List.getElem?_of_mem hfm
        rw [Array.getElem?_toList] at hi
        have h1 := hf i f hi
        have hil : i < xs.length := by rw [hxl]; exact (Array.getElem?_eq_some_iff.1 hi).1
        exact ⟨xs[i], by rw [h1, List.getElem?_eq_getElem hil]⟩)
      simpa using this
    · rename_i m e ht
      split at h
      · rename_i l hl
        split at h
        · rename_i hc
          injection h with h; subst h
          obtain ⟨xs, k, rfl, _, _, hxl, hf⟩ := DataW.trod_array ht hd
          have hcl : cs.length = m * l.length := by rw [hlen]; simp
          refine fits_rep m hcl (fun i hi => ?_)
          have h1 := hf i hi
          rw [hc] at h1
          have hil : i < xs.length := by omega
          refine leafs_fits n k e l _ xs[i] hl ?_ (by rw [h1, List.getElem?_eq_getElem hil])
          have : (i + 1) * l.length ≤ m * l.length := Nat.mul_le_mul_right _ (by omega)
          rw [Nat.succ_mul] at this
          simp; omega
        · cases h
      · cases h
    · cases h
end

theorem reads_W {W : World} {a : Addr} {n k : Nat} {cs : List Value} (hl : cs.length = n * k) (h1 : ∀ v ∈ cs, v.oneCell' = true) (hc : ∀ j v, cs[j]? = some v → W.cell? (a.add j) = some v) : Reads W [] (some a) n k cs :=
  ⟨hl, h1, fun w hw j v hj => ⟨rfl, by
    have h2 := hc j v hj
    show w.cell? (a.add j) = some v
    rw [hw.below.cell (World.block_lt_of_cell? W _ h2), h2]⟩⟩

/-- rows of cells, each as its leaves say, read as a list -/
theorem rows_list {α : Type} {en : α → List Value} {ok : α → Prop} {ls : List Leaf} (hdec : ∀ vs, FitsL ls vs → ∃ x, en x = vs ∧ ok x) (R : Nat → List Value) :
    ∀ (n : Nat), (∀ i, i < n → FitsL ls (R i)) → ∃ l : List α, l.length = n ∧ (∀ x ∈ l, ok x) ∧ l.flatMap en = (List.range n).flatMap R
  | 0, _ => ⟨[], rfl, (fun x h => by cases h), rfl⟩
  | n + 1, h => by
    obtain ⟨l, h1, h2, h3⟩ := rows_list hdec R n (fun i hi => h i (by omega))
    obtain ⟨x, hx1, hx2⟩ := hdec _ (h n (by omega))
    refine ⟨l ++ [x], by simp [h1], fun y hy => ?_, ?_⟩
    · rcases List.mem_append.1 hy with hy | hy
      · exact h2 y hy
      · rw [List.mem_singleton.1 hy]; exact hx2
    · rw [List.flatMap_append, h3, List.range_succ, List.flatMap_append]; simp [hx1]

section
variable {H : Type} {enc : TypeId × Value → H} {P : Program} {W : World}

/-- an argument that is a slice -/
theorem open_rows {t e : TypeId} {ls : List Leaf} {α : Type} {en : α → List Value} {ok : α → Prop} {r : Reach} {b0 : Nat} {v : Value} {d : DataW H} {p : List MemPlace} (N : Nat) (ht : P.underlying t = some (.slice e)) (hl : leafs P N e = some ls) (hC : P.cellsOf e = ls.length)
    (hdec : ∀ vs, FitsL ls vs → ∃ x, en x = vs ∧ ok x) (hval : Value.okWide P W r b0 t v) (h : DataW.Trod enc P W 0 (fun _ => true) true t v d p) :
    ∃ A c, ∃ l : List α, v = .slice A l.length c ∧ l.length ≤ c ∧ (∀ x ∈ l, ok x) ∧ Reads W [] A l.length ls.length (l.flatMap en) := by
  obtain ⟨A, n, c, rfl⟩ := okWide_slice ht hval
  obtain ⟨fuel, hf⟩ := h
  rcases Go.Deep.open_slice ht hf with ⟨h0, _⟩ | ⟨a, len, cap, m, k, D, Pl, hcs, _, hlc, hcm, hm, _, hi⟩
  · injection h0 with h0 _
    injection h0 with h1 h2 h3
    subst h1 h2 h3
    exact ⟨none, 0, [], rfl, Nat.le_refl _, fun x hx => (by cases hx), by simpa using Reads.none_⟩
  · injection hcs with h0 _
    injection h0 with h1 h2 h3
    subst h1 h2 h3
    simp only [if_true] at hm
    subst hm
    have hrow : ∀ i, i < n → ∃ cs', FitsL ls cs' ∧ ∀ j, j < ls.length → W.cell? (a.add (i * ls.length + j)) = cs'[j]? := fun i hin => by
      obtain ⟨cs', hc, ht'⟩ := hi i (by omega)
      rw [hC] at hc
      obtain ⟨_, hcl, hat⟩ := World.cells?_some hc
      refine ⟨cs', leafs_fits N k e ls cs' _ hl hcl ht', fun j hj => ?_⟩
      rw [← Go.Deep.add_add]
      exact hat j hj
    let R : Nat → List Value := fun i => if hin : i < n then Classical.choose (hrow i hin) else []
    have hR : ∀ i (hin : i < n), FitsL ls (R i) ∧ ∀ j, j < ls.length → W.cell? (a.add (i * ls.length + j)) = (R i)[j]? := fun i hin => by
      have := Classical.choose_spec (hrow i hin)
      simp only [R, hin, dif_pos]
      exact this
    obtain ⟨l, l1, l2, l3⟩ := rows_list hdec R n (fun i hin => (hR i hin).1)
    subst l1
    have hlen : ∀ m, m ≤ l.length → ((List.range m).flatMap R).length = m * ls.length := by
      intro m
      induction m with
      | zero => intro _; simp
      | succ m ih => intro hm; rw [List.range_succ, List.flatMap_append, List.length_append, ih (by omega), Nat.succ_mul]; simp [(hR m (by omega)).1.len]
    have hone : ∀ v ∈ (List.range l.length).flatMap R, v.oneCell' = true := fun v hv => by
      obtain ⟨i, hin, hv⟩ := List.mem_flatMap.1 hv
      exact (hR i (List.mem_range.1 hin)).1.one v hv
    have hat : ∀ m, m ≤ l.length → ∀ j v, ((List.range m).flatMap R)[j]? = some v → W.cell? (a.add j) = some v := by
      intro m
      induction m with
      | zero => intro _ j v hj; simp at hj
      | succ m ih =>
        intro hm j v hj
        rw [List.range_succ, List.flatMap_append] at hj
        rcases Nat.lt_or_ge j ((List.range m).flatMap R).length with hlt | hge
        · rw [List.getElem?_append_left hlt] at hj
          exact ih (by omega) j v hj
        · rw [List.getElem?_append_right hge] at hj
          have e := hlen m (by omega)
          rw [e] at hj hge
          simp only [List.flatMap_cons, List.flatMap_nil, List.append_nil] at hj
          have hjl : j - m * ls.length < ls.length := by
            have := (List.getElem?_eq_some_iff.1 hj).1
            rw [(hR m (by omega)).1.len] at this
            exact this
          have h2 := (hR m (by omega)).2 _ hjl
          rw [show m * ls.length + (j - m * ls.length) = j by omega] at h2
          rw [h2, hj]
    refine ⟨some a, _, l, rfl, hlc, l2, ?_⟩
    rw [l3]
    exact reads_W (hlen _ (Nat.le_refl _)) hone (hat _ (Nat.le_refl _))

theorem trodAll_stays (hl : laidOutB P = true) {W' : World} {sp : Nat → Bool} (hb : Below W.heap.size W W') : ∀ {ts : List TypeId} {vs : List Value} {ds : List (DataW H)} {ps : List MemPlace},
    (∀ t ∈ ts, P.readableRec t = true ∧ t < P.types.size) → DataW.TrodAll enc P W 0 (fun _ => true) true ts vs ds ps → (∀ x ∈ ps, x.block < W.heap.size) → (∀ x ∈ ps, sp x.block = true) → DataW.TrodAll enc P W' 0 sp true ts vs ds ps
  | [], _, _, _, _, h, _, _ => by
    obtain ⟨rfl, rfl, rfl⟩ := trodAll_nil h
    exact trodAll_mk0
  | t :: ts, _, _, _, hr, h, hlt, hsp => by
    obtain ⟨v, vs', d, ds', p, q, rfl, rfl, rfl, h1, h2⟩ := trodAll_cons h
    exact trodAll_cons_mk (WideElems.Trod_stays hl (hr t (by simp)).1 (hr t (by simp)).2 h1 (fun x hx => hb.same (hlt x (by simp [hx]))) (fun x hx => hsp x (by simp [hx])))
      (trodAll_stays hl hb (fun u hu => hr u (by simp [hu])) h2 (fun x hx => hlt x (by simp [hx])) (fun x hx => hsp x (by simp [hx])))

/-- the row's answer: the call says true and has turned nothing that was there -/
theorem law_post {f : Func} {s : ChangeSpec} {apart fresh handsOn again : Bool} {W' : World} {args : Array Value} {ds : List (DataW H)} {before : List MemPlace} {tb : TypeId}
    (hW : DataW.Whole enc P f.params.toList s.vars apart W args.toList ds [] before) (hA : DataW.TrodAll enc P W 0 (fun _ => true) true f.params.toList args.toList ds before)
    (hl : laidOutB P = true) (hrow : (f.params.toList.all fun t => P.readableRec t && decide (t < P.types.size)) = true) (hv : s.vars = []) (hr : f.resultTypes = #[tb]) (htb : P.underlying tb = some .bool)
    (h1 : (s.fn H (ds ++ [])).results = [.lit (.bool true)]) (h2 : (s.fn H (ds ++ [])).args = ds) (h3 : (s.fn H (ds ++ [])).vars = []) (hb : Below W.heap.size W W') :
    s.post enc P f apart fresh handsOn again W args (.bool true) W' := by
  have hlt : ∀ p ∈ before, p.block < W.heap.size := fun p hp => hW.lt p hp
  have hrow' : ∀ t ∈ f.params.toList, P.readableRec t = true ∧ t < P.types.size := fun t ht => by
    have := List.all_eq_true.1 hrow t ht
    simpa using this
  have hargs : ∀ sp : Nat → Bool, (∀ p ∈ before, sp p.block = true) → DataW.TrodAll enc P W' 0 sp true f.params.toList args.toList ds before := fun sp hsp => trodAll_stays hl hb hrow' hA hlt hsp
  have hvars : ∀ sp : Nat → Bool, DataW.TrodVars enc P W' sp s.vars [] [] := fun sp => by rw [hv]; exact (rfl : ([] : List MemPlace) = [])
  have hres : ∀ (b : Nat) (sp : Nat → Bool) (hd : Bool), DataW.TrodAll enc P W' b sp hd f.resultTypes.toList ((Value.bool true).resultList f.resultTypes.size) [.lit (.bool true)] [] := fun b sp hd => by
    rw [hr]; exact trodAll_cons_mk (shut_bool htb _) trodAll_mk0
  have hold : ∀ p ∈ before, (fun b => decide (b < W.heap.size)) p.block = true := fun p hp => by simpa using hlt p hp
  refine ⟨ds, [], before, [], before, [], hW, by rw [h1]; exact hres _ _ _, by rw [h2]; exact hargs _ hold, by rw [h3]; exact hvars _, World.keptBut_mono (fun p hp => ⟨hp, .inr (.inl hp)⟩) (hb.frame (· ∈ before)), fun _ => ?_⟩
  obtain ⟨_, _, _, _, _, hz, hn⟩ := hW
  refine ⟨ok_one hr rfl (okWide_bool_mk htb _), _, _, ([] ++ before) ++ [], ⟨[] ++ before, [], trodAll_append (show DataW.TrodAll enc P W' 0 (fun _ => true) true f.params.toList args.toList (s.fn H (ds ++ [])).args before by rw [h2]; exact hargs _ (fun _ _ => rfl)) (show DataW.TrodAll enc P W' 0 (fun _ => true) true f.resultTypes.toList ((Value.bool true).resultList f.resultTypes.size) (s.fn H (ds ++ [])).results [] by rw [h1]; exact hres _ _ _), (show DataW.TrodVars enc P W' (fun _ => true) s.vars (s.fn H (ds ++ [])).vars [] by rw [h3]; exact hvars _), rfl, ?_, ?_⟩, ?_⟩
  · intro b off hp
    have hin : MemPlace.cell b off ∈ before := by simpa using hp
    rw [hb.frozen (p := ⟨b, off, none⟩) (hlt _ hin)]
    exact hz b off hin
  · intro ha
    simpa using hn ha
  · intro p hp _
    simpa using hp

theorem FSpec.row {f : FuncId} {args : List Value} {R : Value → List Chunk → Prop} (hs : FSpec P W f args [] R) (hR : ∀ v h', R v h' → v = .bool true) : Calls P f args.toArray W fun e W' => e = .returned (.bool true) ∧ Below W.heap.size W W' :=
  (hs.2 W (Rep.start W)).mono fun _ _ ⟨v, h', e, r, rp⟩ => ⟨by rw [e, hR v h' r], rp.below⟩
end

theorem wf_i64 {n : Int} (h : (Lit.int .i64 n).wf = true) : -9223372036854775808 ≤ n ∧ n ≤ 9223372036854775807 := by
  simp only [Lit.wf, Bool.and_eq_true] at h
  exact ⟨of_decide_eq_true h.1, of_decide_eq_true h.2⟩

def encZ (n : Int) : List Value := [.int .i64 n]
theorem encZ_len (n : Int) : (encZ n).length = 1 := rfl
theorem decZ (vs : List Value) (h : FitsL [.int .i64] vs) : ∃ x : Int, encZ x = vs ∧ True := by
  have hlen : vs.length = 1 := h.len
  match vs, hlen, h with
  | [v], _, h =>
    obtain ⟨n, hn, _⟩ := h.1
    exact ⟨n, by rw [hn]; rfl, trivial⟩
end Go.Sl
