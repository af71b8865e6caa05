/- Contracts of package book, more: a side, sorted by the library; its levels. Conditions stand in each statement. -/
import Derived.Test.YtiefkpfamkkapaaBook
import Derived.Test.YtiefkpfamkkapaaSort
import Derived.Test.YtiefkpfamkkapaaLay
import Derived.Test.YtiefkpfamkkapaaOrderK
set_option linter.unusedSimpArgs false
set_option linter.unusedVariables false
namespace Go.Proofs.Ytiefkpfamkkapaa
open Go Go.Sl Go.RowKit
attribute [local irreducible] AW ES EP Ld RetQ
set_option maxRecDepth 100000

theorem aw_own {P : Program} {W : World} {N : Nat} {env : Env} {h : List Chunk} {Q : Exit → Env → List Chunk → Prop} {c : Code} {A : Option Addr} {n cc k : Nat} {e : TypeId} {cs : List Value} (hm : Chunk.own A n cc e k cs ∈ h)
    (hc : OwnF A n cc k cs → AW P W N c env h Q) : AW P W N c env h Q := aw_conv fun w hw => ⟨h, hw, hc (hw.ownF hm)⟩
theorem sub_list {α : Type} {p : α → Prop} : ∀ (l : List α), (∀ x ∈ l, p x) → ∃ ls : List {x // p x}, ls.map Subtype.val = l
  | [], _ => ⟨[], rfl⟩
  | x :: l, h => by
    obtain ⟨ls, hl⟩ := sub_list l (fun y hy => h y (List.mem_cons_of_mem _ hy))
    exact ⟨⟨x, h x List.mem_cons_self⟩ :: ls, by simp [hl]⟩
theorem cfO_lt {s : Int} {a b : Order} (ha : a.side = s) : (cfO a b < 0) ↔ (if s = 1 then a.price > b.price ∨ (a.price = b.price ∧ a.seq < b.seq) else if s = 2 then a.price < b.price ∨ (a.price = b.price ∧ a.seq < b.seq) else a.seq < b.seq) := by
  unfold cfO betterB cmpI
  subst ha
  by_cases h1 : a.side = 1
  · simp only [h1, if_true]
    simp
    split <;> (try split) <;> (try split) <;> (try split) <;> omega
  · by_cases h2 : a.side = 2
    · simp only [h2]
      simp
      split <;> (try split) <;> (try split) <;> (try split) <;> omega
    · simp [h1, h2]
      split <;> (try split) <;> omega
abbrev OrdS (s : Int) := {o : Order // o.side = s}
instance instOrdS (s : Int) : Inhabited (OrdS s) := ⟨⟨⟨0, 0, 0, s, 0, 0⟩, rfl⟩⟩
def encS {s : Int} (x : OrdS s) : List Value := x.1.enc
def cfS {s : Int} (x y : OrdS s) : Int := cfO x.1 y.1
theorem ltS {s : Int} (x y : OrdS s) : ltOf cfS x y = true ↔ (if s = 1 then x.1.price > y.1.price ∨ (x.1.price = y.1.price ∧ x.1.seq < y.1.seq) else if s = 2 then x.1.price < y.1.price ∨ (x.1.price = y.1.price ∧ x.1.seq < y.1.seq) else x.1.seq < y.1.seq) := by
  unfold ltOf
  rw [decide_eq_true_iff]
  exact cfO_lt x.2
theorem swoS (s : Int) : Sort.SWO (ltOf (cfS (s := s))) where
  irrefl x := by
    cases h : ltOf cfS x x
    · rfl
    · rw [ltS] at h; exfalso; split at h <;> (try split at h) <;> omega
  trans x y z h1 h2 := by
    rw [ltS] at *
    split <;> (try split) <;> simp_all <;> omega
  ntrans x y z h1 h2 := by
    cases h : ltOf cfS x z
    · rfl
    · exfalso
      have k1 : ¬ ltOf cfS x y = true := by rw [h1]; simp
      have k2 : ¬ ltOf cfS y z = true := by rw [h2]; simp
      rw [ltS] at h k1 k2
      split at h <;> (try split at h) <;> simp_all <;> omega

theorem book_sort (W : World) (s : Int) (F : List Chunk) (A : Option Addr) (c : Nat) (l : List Order) (hl : ∀ o ∈ l, o.side = s) (hb : l.length ≤ 1000000) :
    FSpec Try.prog W 79 [.slice A l.length c, .func (.func 80) #[] #[]] (.own A l.length c 29 6 (l.flatMap Order.enc) :: F)
      (fun v h' => v = .tuple #[] ∧ ∃ l' : List Order, l'.Perm l ∧ l'.Pairwise (fun a b => ¬ cfO b a < 0) ∧ h' = .own A l'.length c 29 6 (l'.flatMap Order.enc) :: F) := by
  obtain ⟨ls, rfl⟩ := sub_list (p := fun o => o.side = s) l hl
  have e : ∀ m : List (OrdS s), (m.map Subtype.val).flatMap Order.enc = m.flatMap encS := fun m => by rw [List.flatMap_map]; rfl
  have hf : FunOK Try.prog 79 := ⟨_, Try.func79, rfl, rfl⟩
  have eg : ∀ args w, (callFunc 80 args).run Try.prog w = .ok (.enter 80 args) w := enters_of Try.func80 (by kernel_rfl) rfl
  have := sortFS (P := Try.prog) (W := W) (F := F) (enc := encS (s := s)) (k := 6) sortL hf Try.isAgg29 Try.sizeOf29 (fun x => x.1.enc_len) (fun x => x.1.enc_one) cfS (swoS s) 80 eg (fun x y W => orderK x.1 y.1 W) A c 29 ls (by simpa using hb)
  rw [List.length_map, e]
  refine FSpec.mono this ?_
  rintro v h' ⟨rfl, l', hp, hs, rfl⟩
  refine ⟨rfl, l'.map Subtype.val, hp.map _, ?_, by rw [List.length_map, e]⟩
  rw [List.pairwise_map]
  exact hs.imp (fun {a b} hab => of_decide_eq_false hab)

set_option maxHeartbeats 1000000 in
theorem book_Side (W : World) (h : List Chunk) (p : Nat) (A : Option Addr) (c : Nat) (l : List Order) (s : Int) (m1 : Chunk.blk p 105 [.slice A l.length c] ∈ h) (m2 : Chunk.own A l.length c 29 6 (l.flatMap Order.enc) ∈ h) (hb : l.length ≤ 1000000) (hu : uqSeq l) (hv : ∀ o ∈ l, isB o.side = true) :
    FSpec Try.prog W 28 [.pointer (some ⟨p, 0, none⟩), .int .i64 s] h
      (fun v h' => ∃ A' c', v = .slice A' (sideO s l).length c' ∧ h' = .own A' (sideO s l).length c' 29 6 ((sideO s l).flatMap Order.enc) :: h ∧ OwnF A' (sideO s l).length c' 6 ((sideO s l).flatMap Order.enc)) := by
  refine FSpec.dropF ?_
  refine spec_body Try.func28 rfl rfl Try.results28 Try.ntmps28 rfl rfl ?_
  refine aw_fact m2 (fun hl hnc hcc hsome hnone hone => ?_)
  have hr : Reads W h A l.length 6 (l.flatMap Order.enc) := Reads.own m2 hl hone
  repeat' (first
    | apply aw_seq | apply aw_region | apply aw_ret | apply aw_skip | apply aw_exit | apply aw_block | apply es_nil
    | (apply es_pure hT; (iterate 4 exact rfl)) | (apply es_skip; (iterate 3 exact rfl)) | (apply es_skip0; (iterate 2 exact rfl))
    | (apply es_i64 hT; (iterate 4 exact rfl); (iterate 2 omega))
    | (apply aw_draw [] [] hmix; decide +kernel)
    | (apply es_load; (iterate 5 exact rfl); first | exact ld_blk hT rfl rfl mem0 rfl rfl | exact ld_all hT rfl rfl mem0 rfl)
    | (apply es_load; (iterate 5 exact rfl); first | exact ld_blk hT rfl rfl mem1 rfl rfl | exact ld_all hT rfl rfl mem1 rfl)
    | (apply es_load; (iterate 5 exact rfl); first | exact ld_blk hT rfl rfl mem2 rfl rfl | exact ld_all hT rfl rfl mem2 rfl)
    | (apply es_load; (iterate 5 exact rfl); first | exact ld_blk hT rfl rfl m1 rfl rfl | exact ld_all hT rfl rfl m1 rfl)
    | (apply es_load; (iterate 5 exact rfl); first | exact ld_blk hT rfl rfl (List.mem_cons_of_mem _ m1) rfl rfl | exact ld_all hT rfl rfl (List.mem_cons_of_mem _ m1) rfl)
    | (apply es_box; (iterate 5 exact rfl); intro _) | (apply es_alloc hT; (iterate 5 exact rfl); intro _)
    | (apply aw_condT; (iterate 2 exact rfl)) | (apply aw_condF; (iterate 2 exact rfl))
    | (apply es_case; exact rfl; all_goals intro hb; all_goals (try simp only [hb]); all_goals (first | replace hb := of_decide_eq_true hb | replace hb := of_decide_eq_false hb | replace hb := bne_t hb | replace hb := bne_f hb | skip); all_goals (try (exfalso; omega)))
    | (apply aw_cond; exact rfl; all_goals intro hb; all_goals (try simp only [hb]); all_goals (first | replace hb := of_decide_eq_true hb | replace hb := of_decide_eq_false hb | replace hb := bne_t hb | replace hb := bne_f hb | skip); all_goals (try (exfalso; omega))))
  refine aw_conv (fun w hw => ⟨_, hw.own_nil 29 6, ?_⟩)
  have hml : ∀ k, ((l.take k).filter (isSide s)).length ≤ k := fun k => by
    have := List.length_filter_le (isSide s) (l.take k); simp at this; omega
  refine aw_loop (α := Nat × Option Addr × Nat) (E := fun x => [(1, .int .i64 s), (5, .slice x.2.1 ((l.take x.1).filter (isSide s)).length x.2.2), (13, .slice A l.length c), (14, .int .i64 l.length), (15, .int .i64 x.1)])
    (H := fun x => .own x.2.1 ((l.take x.1).filter (isSide s)).length x.2.2 29 6 (((l.take x.1).filter (isSide s)).flatMap Order.enc) :: h) (μ := fun x => l.length - x.1)
    (S := fun x => x.1 ≤ l.length) (0, none, 0) (J := []) (Nat.zero_le _) ⟨rfl, rfl, rfl, rfl, rfl, trivial⟩ (List.Perm.refl _) ?_
  rintro ⟨k, A5, c5⟩ hk
  dsimp only at hk ⊢
  have hmk := hml k
  by_cases hlt : k < l.length
  · obtain ⟨x, hx⟩ : ∃ x, l[k]? = some x := ⟨l[k]'(by omega), List.getElem?_eq_getElem (by omega)⟩
    have hx2 : l[(k : Int).toNat]? = some x := by simpa using hx
    obtain ⟨g, hA⟩ := hsome (by omega)
    have hA2 : A.isSome = true := by rw [hA]; rfl
    have hd1 : decide ((k : Int) < (l.length : Int)) = true := by simp; omega
    have hrc := fun X => hr.cons (c := X)
    cases hlv : isSide s x
    · have hne : ¬ x.side = s := by simpa [isSide] using hlv
      have hs1 : (l.take (k + 1)).filter (isSide s) = (l.take k).filter (isSide s) := by
        rw [List.take_add_one, hx, List.filter_append]; simp [hlv]
      repeat' (first
        | apply aw_seq | apply aw_region | apply aw_ret | apply aw_skip | apply aw_exit | apply aw_block | apply es_nil
        | (apply es_pure hT; (iterate 4 exact rfl)) | (apply es_skip; (iterate 3 exact rfl)) | (apply es_skip0; (iterate 2 exact rfl))
        | (apply es_i64 hT; (iterate 4 exact rfl); (iterate 2 omega))
        | (apply aw_draw [] [] hmix; decide +kernel)
        | (apply es_idx hT; (iterate 8 exact rfl); (iterate 2 omega); exact hA2)
        | (apply es_load; (iterate 5 exact rfl); exact ld_elem hT rfl rfl (hrc _) Order.enc_len rfl hx2 rfl)
        | (apply es_alloc hT; (iterate 5 exact rfl); intro g7)
        | (apply es_store hT; (iterate 6 exact rfl); exact sel0; (iterate 3 exact rfl); exact Nat.le_of_ble_eq_true rfl)
        | (apply es_load; (iterate 5 exact rfl); first | exact ld_blk hT rfl rfl mem0 rfl rfl | exact ld_all hT rfl rfl mem0 rfl)
        | (apply es_load; (iterate 5 exact rfl); first | exact ld_blk hT rfl rfl mem1 rfl rfl | exact ld_all hT rfl rfl mem1 rfl)
        | (apply es_load; (iterate 5 exact rfl); first | exact ld_blk hT rfl rfl mem2 rfl rfl | exact ld_all hT rfl rfl mem2 rfl)
        | (apply es_box; (iterate 5 exact rfl); intro _) | (apply es_alloc hT; (iterate 5 exact rfl); intro _)
        | (apply aw_condT; (iterate 2 exact rfl)) | (apply aw_condF; (iterate 2 exact rfl))
        | (apply es_case; exact rfl; all_goals intro hb; all_goals (try simp only [hb]); all_goals (first | replace hb := of_decide_eq_true hb | replace hb := of_decide_eq_false hb | replace hb := bne_t hb | replace hb := bne_f hb | skip); all_goals (try (exfalso; omega)))
        | (apply aw_cond; exact rfl; all_goals intro hb; all_goals (try simp only [hb]); all_goals (first | replace hb := of_decide_eq_true hb | replace hb := of_decide_eq_false hb | replace hb := bne_t hb | replace hb := bne_f hb | skip); all_goals (try (exfalso; omega))))
      all_goals first
        | (exfalso; omega)
        | (refine loopq_end (k + 1, A5, c5) (by dsimp only; omega) (by dsimp only; omega) ⟨rfl, by dsimp only; rw [hs1]; rfl, rfl, rfl, rfl, trivial⟩ ?_
           dsimp only
           rw [hs1]
           exact dt_skip dt_end)
    · have hne : x.side = s := by simpa [isSide] using hlv
      have hs1 : (l.take (k + 1)).filter (isSide s) = (l.take k).filter (isSide s) ++ [x] := by
        rw [List.take_add_one, hx, List.filter_append]; simp [hlv]
      repeat' (first
        | apply aw_seq | apply aw_region | apply aw_ret | apply aw_skip | apply aw_exit | apply aw_block | apply es_nil
        | (apply es_pure hT; (iterate 4 exact rfl)) | (apply es_skip; (iterate 3 exact rfl)) | (apply es_skip0; (iterate 2 exact rfl))
        | (apply es_i64 hT; (iterate 4 exact rfl); (iterate 2 omega))
        | (apply aw_draw [] [] hmix; decide +kernel)
        | (apply es_idx hT; (iterate 8 exact rfl); (iterate 2 omega); exact hA2)
        | (apply es_load; (iterate 5 exact rfl); exact ld_elem hT rfl rfl (hrc _) Order.enc_len rfl hx2 rfl)
        | (apply es_alloc hT; (iterate 5 exact rfl); intro g7)
        | (apply es_store hT; (iterate 6 exact rfl); exact sel0; (iterate 3 exact rfl); exact Nat.le_of_ble_eq_true rfl)
        | (apply es_buildSlice hT; (iterate 12 exact rfl); intro g)
        | (apply es_append hT; (iterate 10 exact rfl); (first | exact sel0 | exact sel1 | exact selS sel1 | exact selS (selS sel1) | exact selS (selS (selS sel1)) | exact selS (selS (selS (selS sel1))) | exact selS (selS (selS (selS (selS sel1)))) | exact selS (selS (selS (selS (selS (selS sel1)))))); exact Reads.own mem0 rfl (Order.enc_one x); omega; (show (_ : Nat) * 48 ≤ _; omega); intro A' c')
        | (apply es_load; (iterate 5 exact rfl); first | exact ld_blk hT rfl rfl mem0 rfl rfl | exact ld_all hT rfl rfl mem0 rfl)
        | (apply es_load; (iterate 5 exact rfl); first | exact ld_blk hT rfl rfl mem1 rfl rfl | exact ld_all hT rfl rfl mem1 rfl)
        | (apply es_load; (iterate 5 exact rfl); first | exact ld_blk hT rfl rfl mem2 rfl rfl | exact ld_all hT rfl rfl mem2 rfl)
        | (apply es_box; (iterate 5 exact rfl); intro _) | (apply es_alloc hT; (iterate 5 exact rfl); intro _)
        | (apply aw_condT; (iterate 2 exact rfl)) | (apply aw_condF; (iterate 2 exact rfl))
        | (apply es_case; exact rfl; all_goals intro hb; all_goals (try simp only [hb]); all_goals (first | replace hb := of_decide_eq_true hb | replace hb := of_decide_eq_false hb | replace hb := bne_t hb | replace hb := bne_f hb | skip); all_goals (try (exfalso; omega)))
        | (apply aw_cond; exact rfl; all_goals intro hb; all_goals (try simp only [hb]); all_goals (first | replace hb := of_decide_eq_true hb | replace hb := of_decide_eq_false hb | replace hb := bne_t hb | replace hb := bne_f hb | skip); all_goals (try (exfalso; omega))))
      all_goals first
        | (exfalso; omega)
        | (refine loopq_end (k + 1, A', c') (by dsimp only; omega) (by dsimp only; omega) ⟨rfl, by dsimp only; rw [hs1, List.length_append]; rfl, rfl, rfl, rfl, trivial⟩ ?_
           dsimp only
           rw [hs1, List.length_append, List.flatMap_append]
           apply dt_cons; (first | exact sel0 | exact sel1 | exact selS sel1 | exact selS (selS sel1) | exact selS (selS (selS sel1)) | exact selS (selS (selS (selS sel1))) | exact selS (selS (selS (selS (selS sel1)))) | exact selS (selS (selS (selS (selS (selS sel1))))))
           (repeat (first | exact dt_end | apply dt_skip)))
  · obtain rfl : k = l.length := by omega
    have hd1 : decide ((l.length : Int) < (l.length : Int)) = false := by simp
    rw [List.take_length] at hmk ⊢
    have hside : ∀ o ∈ l.filter (isSide s), o.side = s := fun o ho => by simpa [isSide] using (List.mem_filter.1 ho).2
    have hsort := fun A5 c5 => book_sort W s h A5 c5 (l.filter (isSide s)) hside (by omega)
    have hfin : ∀ m : List Order, m.Perm (l.filter (isSide s)) → m.Pairwise (fun a b => ¬ cfO b a < 0) → m = sideO s l := fun m hp hs => side_sorted hu hv hp hs
    have hlen : (sideO s l).length = (l.filter (isSide s)).length := (sideO_perm s l).length_eq
    repeat' (first
      | apply aw_seq | apply aw_region | apply aw_ret | apply aw_skip | apply aw_exit | apply aw_block | apply es_nil
      | (apply es_pure hT; (iterate 4 exact rfl)) | (apply es_skip; (iterate 3 exact rfl)) | (apply es_skip0; (iterate 2 exact rfl))
      | (apply es_i64 hT; (iterate 4 exact rfl); (iterate 2 omega))
      | (apply aw_draw [] [] hmix; decide +kernel)
      | (apply es_call0 (hs := (hsort _ _)); (iterate 6 exact rfl); (rintro _ _ ⟨rfl, m, hp, hs, rfl⟩; obtain rfl := hfin m hp hs))
      | (apply es_call (hs := (hsort _ _)); (iterate 7 exact rfl); (rintro _ _ ⟨rfl, m, hp, hs, rfl⟩; obtain rfl := hfin m hp hs))
      | (apply es_load; (iterate 5 exact rfl); first | exact ld_blk hT rfl rfl mem0 rfl rfl | exact ld_all hT rfl rfl mem0 rfl)
      | (apply es_load; (iterate 5 exact rfl); first | exact ld_blk hT rfl rfl mem1 rfl rfl | exact ld_all hT rfl rfl mem1 rfl)
      | (apply es_load; (iterate 5 exact rfl); first | exact ld_blk hT rfl rfl mem2 rfl rfl | exact ld_all hT rfl rfl mem2 rfl)
      | (apply es_box; (iterate 5 exact rfl); intro _) | (apply es_alloc hT; (iterate 5 exact rfl); intro _)
      | (apply aw_condT; (iterate 2 exact rfl)) | (apply aw_condF; (iterate 2 exact rfl))
      | (apply es_case; exact rfl; all_goals intro hb; all_goals (try simp only [hb]); all_goals (first | replace hb := of_decide_eq_true hb | replace hb := of_decide_eq_false hb | replace hb := bne_t hb | replace hb := bne_f hb | skip); all_goals (try (exfalso; omega)))
      | (apply aw_cond; exact rfl; all_goals intro hb; all_goals (try simp only [hb]); all_goals (first | replace hb := of_decide_eq_true hb | replace hb := of_decide_eq_false hb | replace hb := bne_t hb | replace hb := bne_f hb | skip); all_goals (try (exfalso; omega))))
    apply ret1; exact rfl
    refine ⟨_, dt_end, fun w hw => ⟨A5, c5, by rw [hlen], rfl, hw.ownF mem0⟩⟩

/-! ### levels -/
theorem levels_pos {o : List Order} (ho : ∀ x ∈ o, 1 ≤ x.left ∧ x.left ≤ 1000000) (hb : o.length ≤ 1000000) : ∀ v ∈ levelsO o, 1 ≤ v.qty ∧ v.qty ≤ 1000000 * o.length := by
  have key : ∀ (o : List Order) (v : List Lvl) (n : Nat), (∀ x ∈ o, 1 ≤ x.left ∧ x.left ≤ 1000000) → (∀ y ∈ v, 1 ≤ y.qty ∧ y.qty ≤ 1000000 * (n : Int)) → ∀ y ∈ o.foldl addLv v, 1 ≤ y.qty ∧ y.qty ≤ 1000000 * ((n + o.length : Nat) : Int) := by
    intro o
    induction o with
    | nil => intro v n _ hv y hy; simpa using hv y hy
    | cons x o ih =>
      intro v n ho hv y hy
      rw [List.foldl_cons] at hy
      have hx := ho x List.mem_cons_self
      have := ih (addLv v x) (n + 1) (fun z hz => ho z (List.mem_cons_of_mem _ hz)) (fun z hz => ?_) y hy
      · rw [List.length_cons]
        have e : ((n + 1 + o.length : Nat) : Int) = ((n + (o.length + 1) : Nat) : Int) := by omega
        rw [e] at this; exact this
      · unfold addLv at hz
        have hmono : ∀ y ∈ v, 1 ≤ y.qty ∧ y.qty ≤ 1000000 * ((n + 1 : Nat) : Int) := fun y hy => by have := hv y hy; omega
        split at hz
        · rename_i w hw
          have hwv : w ∈ v := List.mem_of_getLast? hw
          split at hz
          · rcases List.mem_append.1 hz with h | h
            · exact hmono z ((List.dropLast_sublist v).subset h)
            · rw [List.mem_singleton.1 h]; have := hv w hwv; dsimp only; omega
          · rcases List.mem_append.1 hz with h | h
            · exact hmono z h
            · rw [List.mem_singleton.1 h]; dsimp only; omega
        · rw [List.mem_singleton.1 hz]; dsimp only; omega
  intro v hv
  have := key o [] 0 ho (fun y hy => by cases hy) v hv
  simpa using this

theorem addLv_last {v : List Lvl} {x : Lvl} {o : Order} (h : v[v.length - 1]? = some x) (hp : x.price = o.price) : addLv v o = v.set (v.length - 1) ⟨x.price, x.qty + o.left⟩ := by
  have hl : v.getLast? = some x := by rw [List.getLast?_eq_getElem?]; exact h
  unfold addLv
  rw [hl]
  dsimp only
  rw [if_pos hp]
  have hne : v ≠ [] := fun e => by rw [e] at h; simp at h
  obtain ⟨u, y, rfl⟩ := List.eq_nil_or_concat v |>.resolve_left hne
  simp
theorem addLv_new {v : List Lvl} {o : Order} (h : ∀ x, v[v.length - 1]? = some x → x.price ≠ o.price) : addLv v o = v ++ [⟨o.price, o.left⟩] := by
  unfold addLv
  split
  · rename_i x hx
    rw [List.getLast?_eq_getElem?] at hx
    rw [if_neg (h x hx)]
  · rename_i hx
    rw [List.getLast?_eq_none_iff] at hx
    rw [hx]; rfl

set_option maxHeartbeats 1000000 in
theorem book_Levels (W : World) (h : List Chunk) (p : Nat) (A : Option Addr) (c : Nat) (l : List Order) (s : Int) (m1 : Chunk.blk p 105 [.slice A l.length c] ∈ h) (m2 : Chunk.own A l.length c 29 6 (l.flatMap Order.enc) ∈ h) (hb : l.length ≤ 1000000) (hu : uqSeq l) (hv : ∀ o ∈ l, isB o.side = true) (hq : ∀ o ∈ l, 1 ≤ o.left ∧ o.left ≤ 1000000) :
    FSpec Try.prog W 30 [.pointer (some ⟨p, 0, none⟩), .int .i64 s] h
      (fun v h' => ∃ A' c', v = .slice A' (levelsO (sideO s l)).length c' ∧ h' = .own A' (levelsO (sideO s l)).length c' 35 2 ((levelsO (sideO s l)).flatMap Lvl.enc) :: h ∧ OwnF A' (levelsO (sideO s l)).length c' 2 ((levelsO (sideO s l)).flatMap Lvl.enc)) := by
  refine FSpec.dropF ?_
  refine spec_body Try.func30 rfl rfl Try.results30 Try.ntmps30 rfl rfl ?_
  have hside := book_Side W h p A c l s m1 m2 hb hu hv
  have hsl := sideO_len s l
  have hsq : ∀ o ∈ sideO s l, 1 ≤ o.left ∧ o.left ≤ 1000000 := fun o ho => hq o (sideO_side ho).1
  generalize sideO s l = sl at hside hsl hsq
  repeat' (first
    | apply aw_seq | apply aw_region | apply aw_ret | apply aw_skip | apply aw_exit | apply aw_block | apply es_nil
    | (apply es_pure hT; (iterate 4 exact rfl)) | (apply es_skip; (iterate 3 exact rfl)) | (apply es_skip0; (iterate 2 exact rfl))
    | (apply es_i64 hT; (iterate 4 exact rfl); (iterate 2 omega))
    | (apply aw_draw [] [] hmix; decide +kernel)
    | (apply es_call (hs := hside); (iterate 7 exact rfl); rintro _ _ ⟨AS, cS, rfl, rfl, hfS⟩)
    | (apply es_load; (iterate 5 exact rfl); first | exact ld_blk hT rfl rfl mem0 rfl rfl | exact ld_all hT rfl rfl mem0 rfl)
    | (apply es_load; (iterate 5 exact rfl); first | exact ld_blk hT rfl rfl mem1 rfl rfl | exact ld_all hT rfl rfl mem1 rfl)
    | (apply es_load; (iterate 5 exact rfl); first | exact ld_blk hT rfl rfl mem2 rfl rfl | exact ld_all hT rfl rfl mem2 rfl)
    | (apply es_box; (iterate 5 exact rfl); intro _) | (apply es_alloc hT; (iterate 5 exact rfl); intro _)
    | (apply aw_condT; (iterate 2 exact rfl)) | (apply aw_condF; (iterate 2 exact rfl))
    | (apply es_case; exact rfl; all_goals intro hb; all_goals (try simp only [hb]); all_goals (first | replace hb := of_decide_eq_true hb | replace hb := of_decide_eq_false hb | replace hb := bne_t hb | replace hb := bne_f hb | skip); all_goals (try (exfalso; omega)))
    | (apply aw_cond; exact rfl; all_goals intro hb; all_goals (try simp only [hb]); all_goals (first | replace hb := of_decide_eq_true hb | replace hb := of_decide_eq_false hb | replace hb := bne_t hb | replace hb := bne_f hb | skip); all_goals (try (exfalso; omega))))
  refine aw_conv (fun w hw => ⟨_, hw.own_nil 35 2, ?_⟩)
  have hll : ∀ k, k ≤ sl.length → (levelsO (sl.take k)).length ≤ k := by
    intro k
    induction k with
    | zero => intro _; simp [levelsO]
    | succ k ih =>
      intro hk
      obtain ⟨x, hx⟩ : ∃ x, sl[k]? = some x := ⟨sl[k]'(by omega), List.getElem?_eq_getElem (by omega)⟩
      rw [List.take_add_one, hx]
      have := addLv_len (levelsO (sl.take k)) x
      have := ih (by omega)
      rw [show (some x).toList = [x] from rfl, levelsO_add]; omega
  refine aw_loop (α := Nat × Option Addr × Nat) (E := fun x => [(5, .slice x.2.1 (levelsO (sl.take x.1)).length x.2.2), (11, .slice AS sl.length cS), (12, .int .i64 sl.length), (13, .int .i64 x.1)])
    (H := fun x => .own x.2.1 (levelsO (sl.take x.1)).length x.2.2 35 2 ((levelsO (sl.take x.1)).flatMap Lvl.enc) :: .own AS sl.length cS 29 6 (sl.flatMap Order.enc) :: h) (μ := fun x => sl.length - x.1)
    (S := fun x => x.1 ≤ sl.length) (0, none, 0) (J := []) (Nat.zero_le _) ⟨rfl, rfl, rfl, rfl, trivial⟩ (List.Perm.refl _) ?_
  rintro ⟨k, A5, c5⟩ hk
  dsimp only at hk ⊢
  refine aw_own mem0 (fun hf5 => ?_)
  have hmk := hll k hk
  by_cases hlt : k < sl.length
  · obtain ⟨x, hx⟩ : ∃ x, sl[k]? = some x := ⟨sl[k]'(by omega), List.getElem?_eq_getElem (by omega)⟩
    have hx2 : sl[(k : Int).toNat]? = some x := by simpa using hx
    have hA := hfS.some_ (by omega)
    have hd1 : decide ((k : Int) < (sl.length : Int)) = true := by simp; omega
    have hstep : levelsO (sl.take (k + 1)) = addLv (levelsO (sl.take k)) x := by
      rw [List.take_add_one, hx, show (some x).toList = [x] from rfl, levelsO_add]
    have hqx := hsq x (List.mem_of_getElem? hx)
    have hqv := levels_pos (o := sl.take k) (fun o ho => hsq o (List.mem_of_mem_take ho)) (by simp; omega)
    have htl : ((sl.take k).length : Int) ≤ 1000000 := by simp; omega
    generalize hvl : levelsO (sl.take k) = v at hf5 hmk hstep hqv ⊢
    by_cases h0 : v.length = 0
    · have hv0 : v = [] := List.eq_nil_of_length_eq_zero h0
      have hadd : addLv v x = v ++ [⟨x.price, x.left⟩] := addLv_new (fun y hy => by rw [hv0] at hy; simp at hy)
      have hd2 : decide (((v.length : Nat) : Int) > 0) = false := by simp; omega
      repeat' (first
        | apply aw_seq | apply aw_region | apply aw_ret | apply aw_skip | apply aw_exit | apply aw_block | apply es_nil
        | (apply es_pure hT; (iterate 4 exact rfl)) | (apply es_skip; (iterate 3 exact rfl)) | (apply es_skip0; (iterate 2 exact rfl))
        | (apply es_i64 hT; (iterate 4 exact rfl); (iterate 2 omega))
        | (apply aw_draw [] [] hmix; decide +kernel)
        | (apply es_idx hT; (iterate 8 exact rfl); (iterate 2 omega); exact hA)
        | (apply es_load; (iterate 5 exact rfl); exact ld_elem hT rfl rfl (hfS.reads mem1) Order.enc_len rfl hx2 rfl)
        | (apply es_alloc hT; (iterate 5 exact rfl); intro g7)
        | (apply es_store hT; (iterate 6 exact rfl); exact sel0; (iterate 3 exact rfl); exact Nat.le_of_ble_eq_true rfl)
        | (apply es_build hT; (iterate 4 exact rfl))
        | (apply es_buildSlice hT; (iterate 12 exact rfl); intro g)
        | (apply es_append hT; (iterate 10 exact rfl); (first | exact sel0 | exact sel1 | exact selS sel1 | exact selS (selS sel1) | exact selS (selS (selS sel1)) | exact selS (selS (selS (selS sel1))) | exact selS (selS (selS (selS (selS sel1)))) | exact selS (selS (selS (selS (selS (selS sel1)))))); exact Reads.own mem0 rfl (Lvl.enc_one ⟨x.price, x.left⟩); omega; (show (_ : Nat) * 16 ≤ _; omega); intro A' c')
        | (apply es_load; (iterate 5 exact rfl); first | exact ld_blk hT rfl rfl mem0 rfl rfl | exact ld_all hT rfl rfl mem0 rfl)
        | (apply es_load; (iterate 5 exact rfl); first | exact ld_blk hT rfl rfl mem1 rfl rfl | exact ld_all hT rfl rfl mem1 rfl)
        | (apply es_load; (iterate 5 exact rfl); first | exact ld_blk hT rfl rfl mem2 rfl rfl | exact ld_all hT rfl rfl mem2 rfl)
        | (apply es_load; (iterate 5 exact rfl); first | exact ld_blk hT rfl rfl mem0 rfl rfl | exact ld_all hT rfl rfl mem0 rfl)
        | (apply es_load; (iterate 5 exact rfl); first | exact ld_blk hT rfl rfl (List.mem_cons_of_mem _ mem0) rfl rfl | exact ld_all hT rfl rfl (List.mem_cons_of_mem _ mem0) rfl)
        | (apply es_load; (iterate 5 exact rfl); first | exact ld_blk hT rfl rfl mem1 rfl rfl | exact ld_all hT rfl rfl mem1 rfl)
        | (apply es_load; (iterate 5 exact rfl); first | exact ld_blk hT rfl rfl (List.mem_cons_of_mem _ mem1) rfl rfl | exact ld_all hT rfl rfl (List.mem_cons_of_mem _ mem1) rfl)
        | (apply es_box; (iterate 5 exact rfl); intro _) | (apply es_alloc hT; (iterate 5 exact rfl); intro _)
        | (apply aw_condT; (iterate 2 exact rfl)) | (apply aw_condF; (iterate 2 exact rfl))
        | (apply es_case; exact rfl; all_goals intro hb; all_goals (try simp only [hb]); all_goals (first | replace hb := of_decide_eq_true hb | replace hb := of_decide_eq_false hb | replace hb := bne_t hb | replace hb := bne_f hb | skip); all_goals (try (exfalso; omega)))
        | (apply aw_cond; exact rfl; all_goals intro hb; all_goals (try simp only [hb]); all_goals (first | replace hb := of_decide_eq_true hb | replace hb := of_decide_eq_false hb | replace hb := bne_t hb | replace hb := bne_f hb | skip); all_goals (try (exfalso; omega))))
      all_goals first
        | (exfalso; omega)
        | (refine loopq_end (k + 1, A', c') (by dsimp only; omega) (by dsimp only; omega) ⟨by dsimp only; rw [hstep, hadd, List.length_append]; rfl, rfl, rfl, rfl, trivial⟩ ?_
           dsimp only
           rw [hstep, hadd, List.length_append, List.flatMap_append]
           apply dt_cons; (first | exact sel0 | exact sel1 | exact selS sel1 | exact selS (selS sel1) | exact selS (selS (selS sel1)) | exact selS (selS (selS (selS sel1))) | exact selS (selS (selS (selS (selS sel1)))) | exact selS (selS (selS (selS (selS (selS sel1))))))
           apply dt_cons; (first | exact sel0 | exact sel1 | exact selS sel1 | exact selS (selS sel1) | exact selS (selS (selS sel1)) | exact selS (selS (selS (selS sel1))) | exact selS (selS (selS (selS (selS sel1)))) | exact selS (selS (selS (selS (selS (selS sel1))))))
           (repeat (first | exact dt_end | apply dt_skip)))
        | (exfalso; simp_all; done)
    · obtain ⟨y, hy⟩ : ∃ y, v[v.length - 1]? = some y := ⟨v[v.length - 1]'(by omega), List.getElem?_eq_getElem (by omega)⟩
      have hy2 : v[((v.length : Int) - 1).toNat]? = some y := by rw [show ((v.length : Int) - 1).toNat = v.length - 1 by omega]; exact hy
      have hA5 := hf5.some_ (by omega)
      have hd2 : decide (((v.length : Nat) : Int) > 0) = true := by simp; omega
      have hqy := hqv y (List.mem_of_getElem? hy)
      by_cases hpp : y.price = x.price
      · have hadd := addLv_last (o := x) hy hpp
        have hlay : lay (v.flatMap Lvl.enc) (((v.length : Int) - 1).toNat * 2 + 1) [.int .i64 (y.qty + x.left)] = (addLv v x).flatMap Lvl.enc := by
          rw [hadd, show ((v.length : Int) - 1).toNat = v.length - 1 by omega, flat_lay Lvl.enc_len (x' := ⟨y.price, y.qty + x.left⟩) hy (Nat.le_of_ble_eq_true rfl) rfl]
        have hlen : (addLv v x).length = v.length := by rw [hadd]; simp
        repeat' (first
          | apply aw_seq | apply aw_region | apply aw_ret | apply aw_skip | apply aw_exit | apply aw_block | apply es_nil
          | (apply es_pure hT; (iterate 4 exact rfl)) | (apply es_skip; (iterate 3 exact rfl)) | (apply es_skip0; (iterate 2 exact rfl))
          | (apply es_i64 hT; (iterate 4 exact rfl); (iterate 2 omega))
          | (apply aw_draw [] [] hmix; decide +kernel)
          | (apply es_idx hT; (iterate 8 exact rfl); (iterate 2 omega); first | exact hA | exact hA5)
          | (apply es_load; (iterate 5 exact rfl); first | exact ld_elem hT rfl rfl (hfS.reads mem1) Order.enc_len rfl hx2 rfl | exact ld_fld hT rfl rfl (hf5.reads mem1) Lvl.enc_len (adr_add _ _ _) hy2 (by decide) rfl)
          | (apply es_alloc hT; (iterate 5 exact rfl); intro g7)
          | (apply es_store hT; (iterate 6 exact rfl); exact sel0; (iterate 3 exact rfl); exact Nat.le_of_ble_eq_true rfl)
          | (apply es_storeRow hT; (iterate 6 exact rfl); (first | exact sel0 | exact sel1 | exact selS sel1 | exact selS (selS sel1) | exact selS (selS (selS sel1)) | exact selS (selS (selS (selS sel1))) | exact selS (selS (selS (selS (selS sel1)))) | exact selS (selS (selS (selS (selS (selS sel1)))))); exact adr_add _ _ _; exact rfl; exact rfl; (show (((v.length : Int) - 1).toNat * 2 + 1) + 1 ≤ v.length * 2; omega); omega)
          | (apply es_load; (iterate 5 exact rfl); first | exact ld_blk hT rfl rfl mem0 rfl rfl | exact ld_all hT rfl rfl mem0 rfl)
          | (apply es_load; (iterate 5 exact rfl); first | exact ld_blk hT rfl rfl mem1 rfl rfl | exact ld_all hT rfl rfl mem1 rfl)
          | (apply es_load; (iterate 5 exact rfl); first | exact ld_blk hT rfl rfl mem2 rfl rfl | exact ld_all hT rfl rfl mem2 rfl)
          | (apply es_load; (iterate 5 exact rfl); first | exact ld_blk hT rfl rfl mem0 rfl rfl | exact ld_all hT rfl rfl mem0 rfl)
          | (apply es_load; (iterate 5 exact rfl); first | exact ld_blk hT rfl rfl (List.mem_cons_of_mem _ mem0) rfl rfl | exact ld_all hT rfl rfl (List.mem_cons_of_mem _ mem0) rfl)
          | (apply es_load; (iterate 5 exact rfl); first | exact ld_blk hT rfl rfl mem1 rfl rfl | exact ld_all hT rfl rfl mem1 rfl)
          | (apply es_load; (iterate 5 exact rfl); first | exact ld_blk hT rfl rfl (List.mem_cons_of_mem _ mem1) rfl rfl | exact ld_all hT rfl rfl (List.mem_cons_of_mem _ mem1) rfl)
          | (apply es_box; (iterate 5 exact rfl); intro _) | (apply es_alloc hT; (iterate 5 exact rfl); intro _)
          | (apply aw_condT; (iterate 2 exact rfl)) | (apply aw_condF; (iterate 2 exact rfl))
          | (apply es_case; exact rfl; all_goals intro hb; all_goals (try simp only [hb]); all_goals (first | replace hb := of_decide_eq_true hb | replace hb := of_decide_eq_false hb | replace hb := bne_t hb | replace hb := bne_f hb | skip); all_goals (try (exfalso; omega)))
          | (apply aw_cond; exact rfl; all_goals intro hb; all_goals (try simp only [hb]); all_goals (first | replace hb := of_decide_eq_true hb | replace hb := of_decide_eq_false hb | replace hb := bne_t hb | replace hb := bne_f hb | skip); all_goals (try (exfalso; omega))))
        all_goals first
          | (exfalso; omega)
          | (refine loopq_end (k + 1, A5, c5) (by dsimp only; omega) (by dsimp only; omega) ⟨by dsimp only; rw [hstep, hlen]; rfl, rfl, rfl, rfl, trivial⟩ ?_
             dsimp only
             rw [hstep, hlen, ← hlay]
             apply dt_cons; (first | exact sel0 | exact sel1 | exact selS sel1 | exact selS (selS sel1) | exact selS (selS (selS sel1)) | exact selS (selS (selS (selS sel1))) | exact selS (selS (selS (selS (selS sel1)))) | exact selS (selS (selS (selS (selS (selS sel1))))))
             apply dt_cons; (first | exact sel0 | exact sel1 | exact selS sel1 | exact selS (selS sel1) | exact selS (selS (selS sel1)) | exact selS (selS (selS (selS sel1))) | exact selS (selS (selS (selS (selS sel1)))) | exact selS (selS (selS (selS (selS (selS sel1))))))
             (repeat (first | exact dt_end | apply dt_skip)))
          | (exfalso; simp_all; done)
      · have hadd : addLv v x = v ++ [⟨x.price, x.left⟩] := addLv_new (fun z hz => by rw [hy] at hz; cases hz; exact hpp)
        repeat' (first
          | apply aw_seq | apply aw_region | apply aw_ret | apply aw_skip | apply aw_exit | apply aw_block | apply es_nil
          | (apply es_pure hT; (iterate 4 exact rfl)) | (apply es_skip; (iterate 3 exact rfl)) | (apply es_skip0; (iterate 2 exact rfl))
          | (apply es_i64 hT; (iterate 4 exact rfl); (iterate 2 omega))
          | (apply aw_draw [] [] hmix; decide +kernel)
          | (apply es_idx hT; (iterate 8 exact rfl); (iterate 2 omega); first | exact hA | exact hA5)
          | (apply es_load; (iterate 5 exact rfl); first | exact ld_elem hT rfl rfl (hfS.reads mem1) Order.enc_len rfl hx2 rfl | exact ld_fld hT rfl rfl (hf5.reads mem1) Lvl.enc_len (adr_add _ _ _) hy2 (by decide) rfl)
          | (apply es_alloc hT; (iterate 5 exact rfl); intro g7)
          | (apply es_store hT; (iterate 6 exact rfl); exact sel0; (iterate 3 exact rfl); exact Nat.le_of_ble_eq_true rfl)
          | (apply es_build hT; (iterate 4 exact rfl))
          | (apply es_buildSlice hT; (iterate 12 exact rfl); intro g)
          | (apply es_append hT; (iterate 10 exact rfl); (first | exact sel0 | exact sel1 | exact selS sel1 | exact selS (selS sel1) | exact selS (selS (selS sel1)) | exact selS (selS (selS (selS sel1))) | exact selS (selS (selS (selS (selS sel1)))) | exact selS (selS (selS (selS (selS (selS sel1)))))); exact Reads.own mem0 rfl (Lvl.enc_one ⟨x.price, x.left⟩); omega; (show (_ : Nat) * 16 ≤ _; omega); intro A' c')
          | (apply es_load; (iterate 5 exact rfl); first | exact ld_blk hT rfl rfl mem0 rfl rfl | exact ld_all hT rfl rfl mem0 rfl)
          | (apply es_load; (iterate 5 exact rfl); first | exact ld_blk hT rfl rfl mem1 rfl rfl | exact ld_all hT rfl rfl mem1 rfl)
          | (apply es_load; (iterate 5 exact rfl); first | exact ld_blk hT rfl rfl mem2 rfl rfl | exact ld_all hT rfl rfl mem2 rfl)
          | (apply es_load; (iterate 5 exact rfl); first | exact ld_blk hT rfl rfl mem0 rfl rfl | exact ld_all hT rfl rfl mem0 rfl)
          | (apply es_load; (iterate 5 exact rfl); first | exact ld_blk hT rfl rfl (List.mem_cons_of_mem _ mem0) rfl rfl | exact ld_all hT rfl rfl (List.mem_cons_of_mem _ mem0) rfl)
          | (apply es_load; (iterate 5 exact rfl); first | exact ld_blk hT rfl rfl mem1 rfl rfl | exact ld_all hT rfl rfl mem1 rfl)
          | (apply es_load; (iterate 5 exact rfl); first | exact ld_blk hT rfl rfl (List.mem_cons_of_mem _ mem1) rfl rfl | exact ld_all hT rfl rfl (List.mem_cons_of_mem _ mem1) rfl)
          | (apply es_box; (iterate 5 exact rfl); intro _) | (apply es_alloc hT; (iterate 5 exact rfl); intro _)
          | (apply aw_condT; (iterate 2 exact rfl)) | (apply aw_condF; (iterate 2 exact rfl))
          | (apply es_case; exact rfl; all_goals intro hb; all_goals (try simp only [hb]); all_goals (first | replace hb := of_decide_eq_true hb | replace hb := of_decide_eq_false hb | replace hb := bne_t hb | replace hb := bne_f hb | skip); all_goals (try (exfalso; omega)))
          | (apply aw_cond; exact rfl; all_goals intro hb; all_goals (try simp only [hb]); all_goals (first | replace hb := of_decide_eq_true hb | replace hb := of_decide_eq_false hb | replace hb := bne_t hb | replace hb := bne_f hb | skip); all_goals (try (exfalso; omega))))
        all_goals first
          | (exfalso; omega)
          | (refine loopq_end (k + 1, A', c') (by dsimp only; omega) (by dsimp only; omega) ⟨by dsimp only; rw [hstep, hadd, List.length_append]; rfl, rfl, rfl, rfl, trivial⟩ ?_
             dsimp only
             rw [hstep, hadd, List.length_append, List.flatMap_append]
             apply dt_cons; (first | exact sel0 | exact sel1 | exact selS sel1 | exact selS (selS sel1) | exact selS (selS (selS sel1)) | exact selS (selS (selS (selS sel1))) | exact selS (selS (selS (selS (selS sel1)))) | exact selS (selS (selS (selS (selS (selS sel1))))))
             apply dt_cons; (first | exact sel0 | exact sel1 | exact selS sel1 | exact selS (selS sel1) | exact selS (selS (selS sel1)) | exact selS (selS (selS (selS sel1))) | exact selS (selS (selS (selS (selS sel1)))) | exact selS (selS (selS (selS (selS (selS sel1))))))
             (repeat (first | exact dt_end | apply dt_skip)))
          | (exfalso; simp_all; done)
  · obtain rfl : k = sl.length := by omega
    have hd1 : decide ((sl.length : Int) < (sl.length : Int)) = false := by simp
    rw [List.take_length] at hf5 ⊢
    repeat' (first
      | apply aw_seq | apply aw_region | apply aw_ret | apply aw_skip | apply aw_exit | apply aw_block | apply es_nil
      | (apply es_pure hT; (iterate 4 exact rfl)) | (apply es_skip; (iterate 3 exact rfl)) | (apply es_skip0; (iterate 2 exact rfl))
      | (apply es_i64 hT; (iterate 4 exact rfl); (iterate 2 omega))
      | (apply aw_draw [] [] hmix; decide +kernel)
      | (apply es_load; (iterate 5 exact rfl); first | exact ld_blk hT rfl rfl mem0 rfl rfl | exact ld_all hT rfl rfl mem0 rfl)
      | (apply es_load; (iterate 5 exact rfl); first | exact ld_blk hT rfl rfl mem1 rfl rfl | exact ld_all hT rfl rfl mem1 rfl)
      | (apply es_load; (iterate 5 exact rfl); first | exact ld_blk hT rfl rfl mem2 rfl rfl | exact ld_all hT rfl rfl mem2 rfl)
      | (apply es_box; (iterate 5 exact rfl); intro _) | (apply es_alloc hT; (iterate 5 exact rfl); intro _)
      | (apply aw_condT; (iterate 2 exact rfl)) | (apply aw_condF; (iterate 2 exact rfl))
      | (apply es_case; exact rfl; all_goals intro hb; all_goals (try simp only [hb]); all_goals (first | replace hb := of_decide_eq_true hb | replace hb := of_decide_eq_false hb | replace hb := bne_t hb | replace hb := bne_f hb | skip); all_goals (try (exfalso; omega)))
      | (apply aw_cond; exact rfl; all_goals intro hb; all_goals (try simp only [hb]); all_goals (first | replace hb := of_decide_eq_true hb | replace hb := of_decide_eq_false hb | replace hb := bne_t hb | replace hb := bne_f hb | skip); all_goals (try (exfalso; omega))))
    apply ret1; exact rfl
    exact ⟨.own A5 (levelsO sl).length c5 35 2 ((levelsO sl).flatMap Lvl.enc) :: h, by apply dt_cons; (first | exact sel0 | exact sel1 | exact selS sel1 | exact selS (selS sel1) | exact selS (selS (selS sel1)) | exact selS (selS (selS (selS sel1))) | exact selS (selS (selS (selS (selS sel1)))) | exact selS (selS (selS (selS (selS (selS sel1)))))); (repeat (first | exact dt_end | apply dt_skip)), fun w hw => ⟨A5, c5, rfl, rfl, hf5⟩⟩
end Go.Proofs.Ytiefkpfamkkapaa
