/- A small logic over the model: what a call knows of the memory that it owns ('Chunk', 'Rep'), and how each step of memory changes that. Over any program; no condition of its own. -/
import Derived.Maps.AppendAt
import Derived.Laws.CopyOwn
import Derived.Laws.MakeOwn
import Derived.Laws.StructEq
import Derived.Deep.Quiet
import Derived.Below
import Derived.Tactics
set_option linter.unusedSimpArgs false
set_option linter.unusedVariables false
namespace Go.Sl
open Go Go.RowKit

theorem bne_t {x y : Int} (h : (x != y) = true) : ¬ x = y := by simpa using h
theorem bne_f {x y : Int} (h : (x != y) = false) : x = y := by simpa using h

/-- the address of cell o of a row -/
def adr (A : Option Addr) (o : Nat) : Addr := (A.getD ⟨0, 0, none⟩).add o

inductive Chunk where
  | blk (g : Nat) (t : TypeId) (cs : List Value)
  | own (A : Option Addr) (n c : Nat) (t : TypeId) (k : Nat) (cs : List Value)

def Chunk.keys : Chunk → List Nat
  | .blk g _ _ => [g]
  | .own A _ _ _ _ _ => (A.map (·.block)).toList

def Chunk.holds (B : Nat) (w : World) : Chunk → Prop
  | .blk g t cs => B ≤ g ∧ w.heap[g]? = some (.cells cs.toArray t (0, 0))
  | .own A n c t k cs => w.ownsRow B t k (.slice A n c) n cs ∧ ∀ v ∈ cs, v.oneCell' = true

structure Rep (W : World) (h : List Chunk) (w : World) : Prop where
  below : Below W.heap.size W w
  holds : ∀ c ∈ h, c.holds W.heap.size w
  nodup : (h.flatMap Chunk.keys).Nodup

section
variable {W w w' : World} {h h' F : List Chunk} {c c' : Chunk} {B : Nat}

theorem keys_nodup (c : Chunk) : c.keys.Nodup := by
  cases c with
  | blk g t cs => simp [Chunk.keys]
  | own A n c t k cs => cases A <;> simp [Chunk.keys]

theorem holds_bounds (hc : c.holds B w) : ∀ g ∈ c.keys, B ≤ g ∧ g < w.heap.size := by
  cases c with
  | blk g t cs =>
    intro g' hg
    simp only [Chunk.keys, List.mem_singleton] at hg
    subst hg
    exact ⟨hc.1, (Array.getElem?_eq_some_iff.1 hc.2).1⟩
  | own A n c t k cs =>
    intro g hg
    refine hc.1.lt g ?_
    cases A with
    | none => simp [Chunk.keys] at hg
    | some a => simp [Chunk.keys] at hg; simp [Value.ownBlock, hg]

theorem holds_grown {row : Option Nat} (hc : c.holds B w) (hg : w.grownBy w' row) (hne : ∀ g ∈ c.keys, some g ≠ row) : c.holds B w' := by
  cases c with
  | blk g t cs => exact ⟨hc.1, (hg.block g (Array.getElem?_eq_some_iff.1 hc.2).1 (hne g (by simp [Chunk.keys]))).trans hc.2⟩
  | own A n c t k cs =>
    refine ⟨hc.1.kept hg ?_, hc.2⟩
    cases A with
    | none => exact .inl rfl
    | some a => exact .inr (fun e => hne a.block (by simp [Chunk.keys]) e)

theorem Rep.perm (hr : Rep W h w) (hp : h.Perm h') : Rep W h' w :=
  ⟨hr.below, fun c hc => hr.holds c (hp.mem_iff.2 hc), ((hp.flatMap_right Chunk.keys).nodup_iff).1 hr.nodup⟩

theorem nodup_sub {α : Type} {a b : List α} (hs : a.Sublist b) (hn : b.Nodup) : a.Nodup := hn.sublist hs

theorem Rep.sub (hr : Rep W h w) (hs : h'.Sublist h) : Rep W h' w :=
  ⟨hr.below, fun c hc => hr.holds c (hs.subset hc), hr.nodup.sublist (by
    clear hr
    induction hs with
    | slnil => exact List.Sublist.refl _
    | cons a _ ih => exact ih.trans (by simp [List.flatMap_cons])
    | cons_cons a _ ih => simp only [List.flatMap_cons]; exact (List.Sublist.refl _).append ih)⟩

theorem Rep.drop (hr : Rep W (F ++ h) w) : Rep W h w := hr.sub (List.sublist_append_right F h)
theorem Rep.tail (hr : Rep W (c :: h) w) : Rep W h w := hr.sub (List.sublist_cons_self c h)

theorem below_grown (hb : Below W.heap.size W w) {row : Option Nat} (hg : w.grownBy w' row) (hrow : ∀ g, row = some g → W.heap.size ≤ g) : Below W.heap.size W w' :=
  hb.grown hg hb.size hrow

/-- One chunk has turned, and new blocks are there. -/
theorem Rep.change {row : Option Nat} (hr : Rep W (c :: h) w) (hg : w.grownBy w' row) (hrow : ∀ g, row = some g → g ∈ c.keys)
    (hc : c'.holds W.heap.size w') (hk : ∀ g ∈ c'.keys, g ∈ c.keys ∨ w.heap.size ≤ g) : Rep W (c' :: h) w' := by
  have hn := hr.nodup
  simp only [List.flatMap_cons, List.nodup_append] at hn
  obtain ⟨_, hn2, hn3⟩ := hn
  refine ⟨below_grown hr.below hg (fun g e => (holds_bounds (hr.holds c (by simp)) g (hrow g e)).1), fun d hd => ?_, ?_⟩
  · rcases List.mem_cons.1 hd with rfl | hd
    · exact hc
    · refine holds_grown (hr.holds d (by simp [hd])) hg (fun g hgk e => ?_)
      exact hn3 g (hrow g e.symm) g (List.mem_flatMap.2 ⟨d, hd, hgk⟩) rfl
  · simp only [List.flatMap_cons, List.nodup_append]
    refine ⟨keys_nodup c', hn2, fun g hgc g' hg' e => ?_⟩
    subst e
    rcases hk g hgc with h1 | h1
    · exact hn3 g h1 g hg' rfl
    · obtain ⟨d, hd, hgd⟩ := List.mem_flatMap.1 hg'
      have := (holds_bounds (hr.holds d (by simp [hd])) g hgd).2
      omega

/-- A chunk more, in new blocks. -/
theorem Rep.add (hr : Rep W h w) (hg : w.grownBy w' none) (hc : c'.holds W.heap.size w') (hk : ∀ g ∈ c'.keys, w.heap.size ≤ g) : Rep W (c' :: h) w' := by
  refine ⟨below_grown hr.below hg (fun g e => by cases e), fun d hd => ?_, ?_⟩
  · rcases List.mem_cons.1 hd with rfl | hd
    · exact hc
    · exact holds_grown (hr.holds d hd) hg (fun g _ e => by cases e)
  · simp only [List.flatMap_cons, List.nodup_append]
    refine ⟨keys_nodup c', hr.nodup, fun g hgc g' hg' e => ?_⟩
    subst e
    obtain ⟨d, hd, hgd⟩ := List.mem_flatMap.1 hg'
    have h1 := (holds_bounds (hr.holds d hd) g hgd).2
    have h2 := hk g hgc
    omega

theorem Rep.grow (hr : Rep W h w) (hg : w.grownBy w' none) : Rep W h w' :=
  ⟨below_grown hr.below hg (fun g e => by cases e), fun d hd => holds_grown (hr.holds d hd) hg (fun g _ e => by cases e), hr.nodup⟩

theorem grownBy_drew (w : World) (n : Nat) : w.grownBy { w with drawn := n } none := ⟨rfl, rfl, rfl, Nat.le_refl _, fun _ _ _ => rfl⟩
theorem Rep.drawn (hr : Rep W h w) (n : Nat) : Rep W h { w with drawn := n } := hr.grow (grownBy_drew w n)
theorem Rep.start (W : World) : Rep W [] W := ⟨Below.refl _ _, (fun _ h => by cases h), by simp⟩

theorem Rep.alloc_blk (hr : Rep W h w) (t : TypeId) (cs : List Value) : Rep W (.blk w.heap.size t cs :: h) (w.alloc (.cells cs.toArray t)) :=
  hr.add (World.grownBy_alloc w _ none) ⟨hr.below.size, heap_alloc_new w _⟩ (fun g hg => by simp [Chunk.keys] at hg; omega)

theorem Rep.alloc_own (hr : Rep W h w) (t : TypeId) (n k : Nat) (cs : List Value) (hl : cs.length = n * k) (hn : n ≤ maxLen) (h1 : ∀ v ∈ cs, v.oneCell' = true) :
    Rep W (.own (some ⟨w.heap.size, 0, none⟩) n n t k cs :: h) (w.alloc (.cells cs.toArray t)) := by
  refine hr.add (World.grownBy_alloc w _ none) ⟨⟨hl, .inr ⟨w.heap.size, n, cs.toArray, rfl, hr.below.size, heap_alloc_new w _, Nat.le_refl _, hn, by simpa using hl, ?_⟩⟩, h1⟩ (fun g hg => by simp [Chunk.keys] at hg; omega)
  rw [← hl]; simp

theorem Rep.own_nil (hr : Rep W h w) (t : TypeId) (k : Nat) : Rep W (.own none 0 0 t k [] :: h) w :=
  hr.add (World.grownBy.refl w none) ⟨World.ownsRow_nil _ _ _ _, by simp⟩ (fun g hg => by simp [Chunk.keys] at hg)

/-! ### reading -/
theorem Rep.heap_blk (hr : Rep W h w) {g : Nat} {t : TypeId} {cs : List Value} (hm : Chunk.blk g t cs ∈ h) : w.heap[g]? = some (.cells cs.toArray t (0, 0)) := (hr.holds _ hm).2
theorem Rep.cell_blk (hr : Rep W h w) {g : Nat} {t : TypeId} {cs : List Value} (hm : Chunk.blk g t cs ∈ h) (i : Nat) : w.cell? ⟨g, i, none⟩ = cs[i]? := by
  rw [cell_of_row w g i _ t (0, 0) (hr.heap_blk hm)]; simp

/-- what holds of memory, whether or not the list names a block twice -/
structure RepS (W : World) (h : List Chunk) (w : World) : Prop where
  below : Below W.heap.size W w
  holds : ∀ c ∈ h, c.holds W.heap.size w
theorem Rep.weak (hr : Rep W h' w) (hs : ∀ c ∈ h, c ∈ h') : RepS W h w := ⟨hr.below, fun c hc => hr.holds c (hs c hc)⟩
theorem RepS.heap_blk (hr : RepS W h w) {g : Nat} {t : TypeId} {cs : List Value} (hm : Chunk.blk g t cs ∈ h) : w.heap[g]? = some (.cells cs.toArray t (0, 0)) := (hr.holds _ hm).2
theorem RepS.cell_blk (hr : RepS W h w) {g : Nat} {t : TypeId} {cs : List Value} (hm : Chunk.blk g t cs ∈ h) (i : Nat) : w.cell? ⟨g, i, none⟩ = cs[i]? := by
  rw [cell_of_row w g i _ t (0, 0) (hr.heap_blk hm)]; simp

/-- the cells of a row that can be read: of one that the call owns, or of one that came in -/
def Reads (W : World) (h : List Chunk) (A : Option Addr) (n k : Nat) (cs : List Value) : Prop :=
  cs.length = n * k ∧ (∀ v ∈ cs, v.oneCell' = true) ∧ ∀ w, RepS W h w → ∀ j v, cs[j]? = some v → A.isSome = true ∧ w.cell? (adr A j) = some v

theorem Reads.len {A n k cs} (hr : Reads W h A n k cs) : cs.length = n * k := hr.1
theorem Reads.mono {A n k cs} (hr : Reads W h A n k cs) (hs : ∀ c ∈ h, c ∈ h') : Reads W h' A n k cs :=
  ⟨hr.1, hr.2.1, fun w hw => hr.2.2 w ⟨hw.below, fun c hc => hw.holds c (hs c hc)⟩⟩
theorem Reads.cons {A n k cs} (hr : Reads W h A n k cs) : Reads W (c :: h) A n k cs := hr.mono fun _ hc => List.mem_cons_of_mem _ hc
theorem Reads.none_ {k} : Reads W h none 0 k [] := ⟨by simp, by simp, fun w _ j v hj => by simp at hj⟩

theorem Reads.own {A n c t k cs} (hm : Chunk.own A n c t k cs ∈ h) (hl : cs.length = n * k) (h1 : ∀ v ∈ cs, v.oneCell' = true) : Reads W h A n k cs := by
  refine ⟨hl, h1, fun w hw j v hj => ?_⟩
  have ho := (hw.holds _ hm).1
  rcases ho.2 with ⟨hv, rfl⟩ | ⟨g, cap, cur, hv, _, hg, _⟩
  · have : cs = [] := List.eq_nil_of_length_eq_zero (by simpa using ho.1)
    subst this; simp at hj
  · injection hv with hA _ _
    subst hA
    refine ⟨rfl, ?_⟩
    exact ho.cells (g := g) rfl j v hj
theorem Rep.own_len {A n c t k cs} (hr : Rep W h w) (hm : Chunk.own A n c t k cs ∈ h) : cs.length = n * k ∧ ∀ v ∈ cs, v.oneCell' = true := ⟨(hr.holds _ hm).1.1, (hr.holds _ hm).2⟩
end
end Go.Sl
