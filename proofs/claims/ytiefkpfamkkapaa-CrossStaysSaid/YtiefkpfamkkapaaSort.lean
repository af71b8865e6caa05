/- The library's sort of a row of the call's own: a permutation, sorted. Over any program; conditions stand in each statement. -/
import Derived.Test.YtiefkpfamkkapaaSlH
import Derived.Shelf.SlSortCmp.NoneTotal
set_option linter.unusedSimpArgs false
set_option linter.unusedVariables false
namespace Go.Sl
open Go Go.RowKit Go.Sort Go.Proofs Go.Shelf

theorem flatK_list {α : Type} [Inhabited α] {enc : α → List Value} {k : Nat} (hk : ∀ x, (enc x).length = k) (d : Array α) : (flatK enc k d).toList = d.toList.flatMap enc := by
  apply List.ext_getElem?
  intro t
  have hl := flat_len (enc := enc) hk d.toList
  by_cases ht : t < d.size * k
  · have k0 : 0 < k := by
      rcases Nat.eq_zero_or_pos k with h | h
      · subst h; simp at ht
      · exact h
    have hi : t / k < d.size := (Nat.div_lt_iff_lt_mul k0).2 ht
    have hx : d.toList[t / k]? = some d[t / k]! := by
      rw [Array.getElem?_toList, getElem!_pos d _ hi]; simp [hi]
    have e := flat_at hk d.toList (t / k) (t % k) _ hx (Nat.mod_lt _ k0)
    rw [Nat.div_add_mod' t k] at e
    rw [e]
    have h1 := get_flatK enc k d t ht
    have hs : t < (flatK enc k d).size := by simpa using ht
    rw [Array.getElem?_toList, Array.getElem?_eq_getElem hs, ← getElem!_pos _ t hs, h1]
    have hm : t % k < (enc d[t / k]!).length := by rw [hk]; exact Nat.mod_lt _ k0
    rw [List.getElem?_eq_getElem hm, getElem!_pos (enc d[t / k]!) (t % k) hm]
  · rw [List.getElem?_eq_none (by simp; omega), List.getElem?_eq_none (by rw [hl]; simp; omega)]

theorem permIn_list {α : Type} [Inhabited α] {d d' : Array α} (h : PermIn 0 d.size d d') : d'.toList.Perm d.toList := by
  obtain ⟨h1, _, h3⟩ := h
  have e1 : d'.extract 0 d.size = d' := by rw [← h1]; simp
  have e2 : d.extract 0 d.size = d := by simp
  rw [e1, e2] at h3
  exact h3
theorem sortedIn_list {α : Type} [Inhabited α] {lt : α → α → Bool} {d' : Array α} {n : Nat} (h : SortedIn lt 0 n d') (hn : d'.size = n) : d'.toList.Pairwise fun a b => lt b a = false := by
  rw [List.pairwise_iff_getElem]
  intro i j hi hj hij
  have hj' : j < d'.size := by simpa using hj
  have := h i j (Nat.zero_le _) hij (by omega)
  rw [getElem!_pos d' j hj', getElem!_pos d' i (by omega)] at this
  simpa using this

section
variable {P : Program} {W w : World} {F : List Chunk} {α : Type} [Inhabited α] {enc : α → List Value} {k : Nat}

theorem sort_heap {g m : Nat} {os : Array Obj} {cur : Array Value} {t : TypeId} {fr : Nat × Nat} (d : Array α) (hb : w.heap[g]? = some (.cells cur t fr)) :
    (sortWorldK enc k w g 0 m d os).heap[g]? = some (.cells (putCells id 0 (flatK enc k d) cur) t fr) := by
  have hg : g < w.heap.size := (Array.getElem?_eq_some_iff.1 hb).1
  unfold sortWorldK putRowK
  rw [Go.Sort.heap_grow_old _ _ (by simpa using hg)]
  simp [putRow, mapBlock, Sort.ahead, Array.getElem?_modify, hb, onCells]

theorem sort_grownBy {g m : Nat} {os : Array Obj} (d : Array α) : w.grownBy (sortWorldK enc k w g 0 m d os) (some g) := by
  unfold sortWorldK putRowK
  refine ⟨rfl, rfl, rfl, by simp, fun j hj hne => ?_⟩
  rw [Go.Sort.heap_grow_old _ _ (by simpa using hj)]
  have : g ≠ j := fun e => hne (by rw [e])
  simp [putRow, mapBlock, Sort.ahead, Array.getElem?_modify, this]

theorem sort_rep {g n c m : Nat} {t : TypeId} {os : Array Obj} {l : List α} (hk : ∀ x, (enc x).length = k) (h1 : ∀ x, ∀ v ∈ enc x, v.oneCell' = true) (hn : l.length = n) (hw : Rep W (.own (some ⟨g, 0, none⟩) n c t k (l.flatMap enc) :: F) w) (d' : Array α) (hd : d'.size = n) :
    Rep W (.own (some ⟨g, 0, none⟩) n c t k (d'.toList.flatMap enc) :: F) (sortWorldK enc k w g 0 m d' os) := by
  have ho := hw.holds _ mem0
  rcases ho.1.2 with ⟨hv, _⟩ | ⟨g', cap, cur, hv, hbb, hgb, hnc, hcm, hcs, htk⟩
  · cases hv
  · injection hv with hA _ hc
    injection hA with hA
    injection hA with hA _ _
    subst hA hc
    have hlen : (d'.toList.flatMap enc).length = n * k := by rw [flat_len hk]; simp [hd]
    have hle : n * k ≤ cur.size := by rw [hcs]; exact Nat.mul_le_mul_right k hnc
    refine hw.change (sort_grownBy d') (fun j e => by simp [Chunk.keys]; exact (Option.some.inj e).symm) ⟨⟨hlen, .inr ⟨g, c, _, rfl, hbb, sort_heap d' hgb, hnc, hcm, by simp [putCells, hcs], ?_⟩⟩, fun v hv => ?_⟩ (fun j hj => .inl (by simpa [Chunk.keys] using hj))
    · rw [← flatK_list hk d']
      apply List.ext_getElem?
      intro j
      have hsz : (flatK enc k d').size = n * k := by simp [hd]
      by_cases hj : j < n * k
      · rw [List.getElem?_take_of_lt hj, Array.getElem?_toList, Array.getElem?_toList]
        have hjc : j < cur.size := by omega
        have hjf : j < (flatK enc k d').size := by omega
        simp [putCells, hjc, hjf]
        rw [if_pos (by rw [hd]; exact hj), Array.getElem?_eq_getElem hjf, getElem!_pos _ j hjf]
      · rw [List.getElem?_take_eq_none (by omega), List.getElem?_eq_none (by simp [hd]; omega)]
    · obtain ⟨x, _, hx⟩ := List.mem_flatMap.1 hv
      exact h1 x v hx

theorem sort_holds {g n c : Nat} {t : TypeId} {l : List α} (hk : ∀ x, (enc x).length = k) (hn : l.length = n) (hw : Rep W (.own (some ⟨g, 0, none⟩) n c t k (l.flatMap enc) :: F) w) : HoldsK enc k w g 0 l.toArray ∧ g < w.heap.size := by
  have ho := hw.holds _ mem0
  rcases ho.1.2 with ⟨hv, _⟩ | ⟨g', cap, cur, hv, hbb, hgb, hnc, hcm, hcs, htk⟩
  · cases hv
  · injection hv with hA _ hc
    injection hA with hA
    injection hA with hA _ _
    subst hA hc
    refine ⟨fun j hj => ?_, (Array.getElem?_eq_some_iff.1 hgb).1⟩
    have hj' : j < n * k := by simpa [hn] using hj
    refine ⟨?_, by simp [World.frozen?, hgb]⟩
    have h2 : (flatK enc k l.toArray).toList = l.flatMap enc := by rw [flatK_list hk]
    have h3 : (cur.toList.take (n * k))[j]? = ((flatK enc k l.toArray).toList)[j]? := by rw [htk, h2]
    rw [List.getElem?_take_of_lt hj', Array.getElem?_toList, Array.getElem?_toList] at h3
    simp only [World.cell?, hgb, Nat.zero_add, Option.isSome_none, Bool.false_eq_true, if_false]
    rw [h3, Array.getElem?_eq_getElem hj, getElem!_pos _ j hj]
    rfl

/-- **slices.SortFunc**, of a row of the call's own -/
theorem sortFS {ρ : Ren} (L : SlLaysF0.n6 P ρ) (hf : FunOK P (ρ.f 6)) (aE : ∀ w, (isAgg (ρ.t 24)).run P w = .ok true w) (zE : ∀ w, (Go.sizeOf (ρ.t 24)).run P w = .ok k w) (hk : ∀ x, (enc x).length = k) (h1 : ∀ x, ∀ v ∈ enc x, v.oneCell' = true) (cf : α → α → Int) (hO : SWO (ltOf cf)) (g : Nat)
    (eg : ∀ args w, (callFunc g args).run P w = .ok (.enter g args) w) (hcmp : ∀ (x y : α) (W : World), Calls P g #[.agg (enc x).toArray, .agg (enc y).toArray] W fun e w' => e = .returned (.int .i64 (cf x y)) ∧ ∃ q os', w' = grow (W.drewN q) os')
    (A : Option Addr) (c : Nat) (t : TypeId) (l : List α) (hb : l.length ≤ 1000000) :
    FSpec P W (ρ.f 6) [.slice A l.length c, .func (.func g) #[] #[]] (.own A l.length c t k (l.flatMap enc) :: F) (fun v h' => v = .tuple #[] ∧ ∃ l' : List α, l'.Perm l ∧ l'.Pairwise (fun a b => ltOf cf b a = false) ∧ h' = .own A l'.length c t k (l'.flatMap enc) :: F) := by
  refine ⟨hf, fun w hw => ?_⟩
  cases l with
  | nil => exact (AnyF.slices_SortFunc_none L A c _ w).mono fun e w' ⟨he, hww⟩ => ⟨_, _, he, ⟨rfl, [], List.Perm.refl _, List.Pairwise.nil, rfl⟩, by rw [hww]; exact hw⟩
  | cons x0 l0 =>
    generalize hl : x0 :: l0 = l at *
    have hpos : 0 < l.length := by rw [← hl]; simp
    obtain ⟨g', hA⟩ := (hw.ownF mem0).at_ hpos
    subst hA
    obtain ⟨hH, hblk⟩ := sort_holds hk rfl hw
    have hlays : CmpLays P g #[] enc k cf g' 0 l.toArray.size w := fun m os dk _ x y => by simpa using hcmp x y _
    have hcon := AnyQ.slices_SortFunc L k aE zE enc hk h1 cf hO g #[] g' 0 c l.toArray w eg hlays hH hblk (by simp; omega)
    refine hcon.mono ?_
    rintro e w' ⟨rfl, d', n, os, hp, hs, rfl⟩
    have hd : d'.size = l.length := by have := hp.1; simpa using this
    refine ⟨_, _, rfl, ⟨rfl, d'.toList, by simpa using permIn_list hp, sortedIn_list hs (by simpa using hd), rfl⟩, ?_⟩
    have := sort_rep (m := n) (os := os) hk h1 rfl hw d' hd
    simpa [hd] using this
end
end Go.Sl
