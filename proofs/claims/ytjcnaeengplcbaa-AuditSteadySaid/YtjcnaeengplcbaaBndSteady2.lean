/- The statement's walk, and what it stands on, joined into few texts: part 2. Conditions stand in each statement. -/
import Derived.Maps.AppendAt
import Derived.Laws.CopyOwn
import Derived.Laws.MakeOwn
import Derived.Laws.StructEq
import Derived.Deep.Quiet
import Derived.Below
import Derived.Tactics
import Derived.IntWalk
import Derived.Lib.Overlaps
import Derived.Test.YtjcnaeengplcbaaRows
import Derived.OpenShut
import Derived.ChangeSame
import Derived.ProofKit
import Derived.WideKeyArgs
import Derived.Deep.Slices
import Derived.Deep.Fields
import Derived.Test.YtjcnaeengplcbaaChecked
import Derived.KernelRfl
import Derived.MapKept
import Derived.Shelf.SlSortCmp.NoneTotal
import Derived.Ground.SlsfProg
import Derived.WalkKit
import Derived.Sort.Grow
import Derived.Lib.Mul64
import Derived.Laws.Bits64b
import Derived.ChangeKeysEq
import Derived.Test.YtjcnaeengplcbaaBndSteady1
set_option linter.unusedSimpArgs false
set_option linter.unusedVariables false
namespace Go.Proofs.Ytjcnaeengplcbaa
open Go Go.Sl Go.RowKit
attribute [local irreducible] AW ES EP Ld RetQ
set_option maxRecDepth 100000

theorem aw_own {P : Program} {W : World} {N : Nat} {env : Env} {h : List Chunk} {Q : Exit → Env → List Chunk → Prop} {c : Code} {A : Option Addr} {n cc k : Nat} {e : TypeId} {cs : List Value} (hm : Chunk.own A n cc e k cs ∈ h)
    (hc : OwnF A n cc k cs → AW P W N c env h Q) : AW P W N c env h Q := aw_conv fun w hw => ⟨h, hw, hc (hw.ownF hm)⟩
theorem sub_list {α : Type} {p : α → Prop} : ∀ (l : List α), (∀ x ∈ l, p x) → ∃ ls : List {x // p x}, ls.map Subtype.val = l
  | [], _ => ⟨[], rfl⟩
  | x :: l, h => by
    obtain ⟨ls, hl⟩ := sub_list l (fun y hy => h y (List.mem_cons_of_mem _ hy))
    exact ⟨⟨x, h x List.mem_cons_self⟩ :: ls, by simp [hl]⟩
theorem cfO_lt {s : Int} {a b : Order} (ha : a.side = s) : (cfO a b < 0) ↔ (if s = 1 then a.price > b.price ∨ (a.price = b.price ∧ a.seq < b.seq) else if s = 2 then a.price < b.price ∨ (a.price = b.price ∧ a.seq < b.seq) else a.seq < b.seq) := by
  unfold cfO betterB cmpI
  subst ha
  by_cases h1 : a.side = 1
  · simp only [h1, if_true]
    simp
    split <;> (try split) <;> (try split) <;> (try split) <;> omega
  · by_cases h2 : a.side = 2
    · simp only [h2]
      simp
      split <;> (try split) <;> (try split) <;> (try split) <;> omega
    · simp [h1, h2]
      split <;> (try split) <;> omega
abbrev OrdS (s : Int) := {o : Order // o.side = s}
instance instOrdS (s : Int) : Inhabited (OrdS s) := ⟨⟨⟨0, 0, 0, s, 0, 0⟩, rfl⟩⟩
def encS {s : Int} (x : OrdS s) : List Value := x.1.enc
def cfS {s : Int} (x y : OrdS s) : Int := cfO x.1 y.1
theorem ltS {s : Int} (x y : OrdS s) : ltOf cfS x y = true ↔ (if s = 1 then x.1.price > y.1.price ∨ (x.1.price = y.1.price ∧ x.1.seq < y.1.seq) else if s = 2 then x.1.price < y.1.price ∨ (x.1.price = y.1.price ∧ x.1.seq < y.1.seq) else x.1.seq < y.1.seq) := by
  unfold ltOf
  rw [decide_eq_true_iff]
  exact cfO_lt x.2
theorem swoS (s : Int) : Sort.SWO (ltOf (cfS (s := s))) where
  irrefl x := by
    cases h : ltOf cfS x x
    · rfl
    · rw [ltS] at h; exfalso; split at h <;> (try split at h) <;> omega
  trans x y z h1 h2 := by
    rw [ltS] at *
    split <;> (try split) <;> simp_all <;> omega
  ntrans x y z h1 h2 := by
    cases h : ltOf cfS x z
    · rfl
    · exfalso
      have k1 : ¬ ltOf cfS x y = true := by rw [h1]; simp
      have k2 : ¬ ltOf cfS y z = true := by rw [h2]; simp
      rw [ltS] at h k1 k2
      split at h <;> (try split at h) <;> simp_all <;> omega

theorem book_sort (W : World) (s : Int) (F : List Chunk) (A : Option Addr) (c : Nat) (l : List Order) (hl : ∀ o ∈ l, o.side = s) (hb : l.length ≤ 1000000) :
    FSpec Try.prog W 70 [.slice A l.length c, .func (.func 71) #[] #[]] (.own A l.length c 129 6 (l.flatMap Order.enc) :: F)
      (fun v h' => v = .tuple #[] ∧ ∃ l' : List Order, l'.Perm l ∧ l'.Pairwise (fun a b => ¬ cfO b a < 0) ∧ h' = .own A l'.length c 129 6 (l'.flatMap Order.enc) :: F) := by
  obtain ⟨ls, rfl⟩ := sub_list (p := fun o => o.side = s) l hl
  have e : ∀ m : List (OrdS s), (m.map Subtype.val).flatMap Order.enc = m.flatMap encS := fun m => by rw [List.flatMap_map]; rfl
  have hf : FunOK Try.prog 70 := ⟨_, Try.func70, rfl, rfl⟩
  have eg : ∀ args w, (callFunc 71 args).run Try.prog w = .ok (.enter 71 args) w := enters_of Try.func71 (by kernel_rfl) rfl
  have := sortFS (P := Try.prog) (W := W) (F := F) (enc := encS (s := s)) (k := 6) sortL hf Try.isAgg129 Try.sizeOf129 (fun x => x.1.enc_len) (fun x => x.1.enc_one) cfS (swoS s) 71 eg (fun x y W => orderK x.1 y.1 W) A c 129 ls (by simpa using hb)
  rw [List.length_map, e]
  refine FSpec.mono this ?_
  rintro v h' ⟨rfl, l', hp, hs, rfl⟩
  refine ⟨rfl, l'.map Subtype.val, hp.map _, ?_, by rw [List.length_map, e]⟩
  rw [List.pairwise_map]
  exact hs.imp (fun {a b} hab => of_decide_eq_false hab)

set_option maxHeartbeats 1000000 in
theorem book_Side (W : World) (h : List Chunk) (p : Nat) (A : Option Addr) (c : Nat) (l : List Order) (s : Int) (m1 : Chunk.blk p 126 [.slice A l.length c] ∈ h) (m2 : Chunk.own A l.length c 129 6 (l.flatMap Order.enc) ∈ h) (hb : l.length ≤ 1000000) (hu : uqSeq l) (hv : ∀ o ∈ l, isB o.side = true) :
    FSpec Try.prog W 57 [.pointer (some ⟨p, 0, none⟩), .int .i64 s] h
      (fun v h' => ∃ A' c', v = .slice A' (sideO s l).length c' ∧ h' = .own A' (sideO s l).length c' 129 6 ((sideO s l).flatMap Order.enc) :: h ∧ OwnF A' (sideO s l).length c' 6 ((sideO s l).flatMap Order.enc)) := by
  refine FSpec.dropF ?_
  refine spec_body Try.func57 rfl rfl Try.results57 Try.ntmps57 rfl rfl ?_
  refine aw_fact m2 (fun hl hnc hcc hsome hnone hone => ?_)
  have hr : Reads W h A l.length 6 (l.flatMap Order.enc) := Reads.own m2 hl hone
  repeat' (first
    | apply aw_seq | apply aw_region | apply aw_ret | apply aw_skip | apply aw_exit | apply aw_block | apply es_nil
    | (apply es_pure hT; (iterate 4 exact rfl)) | (apply es_skip; (iterate 3 exact rfl)) | (apply es_skip0; (iterate 2 exact rfl))
    | (apply es_i64 hT; (iterate 4 exact rfl); (iterate 2 omega))
    | (apply aw_draw [] [] hmix; decide +kernel)
    | (apply es_load; (iterate 5 exact rfl); first | exact ld_blk hT rfl rfl mem0 rfl rfl | exact ld_all hT rfl rfl mem0 rfl)
    | (apply es_load; (iterate 5 exact rfl); first | exact ld_blk hT rfl rfl mem1 rfl rfl | exact ld_all hT rfl rfl mem1 rfl)
    | (apply es_load; (iterate 5 exact rfl); first | exact ld_blk hT rfl rfl mem2 rfl rfl | exact ld_all hT rfl rfl mem2 rfl)
    | (apply es_load; (iterate 5 exact rfl); first | exact ld_blk hT rfl rfl m1 rfl rfl | exact ld_all hT rfl rfl m1 rfl)
    | (apply es_load; (iterate 5 exact rfl); first | exact ld_blk hT rfl rfl (List.mem_cons_of_mem _ m1) rfl rfl | exact ld_all hT rfl rfl (List.mem_cons_of_mem _ m1) rfl)
    | (apply es_box; (iterate 5 exact rfl); intro _) | (apply es_alloc hT; (iterate 5 exact rfl); intro _)
    | (apply aw_condT; (iterate 2 exact rfl)) | (apply aw_condF; (iterate 2 exact rfl))
    | (apply es_case; exact rfl; all_goals intro hb; all_goals (try simp only [hb]); all_goals (first | replace hb := of_decide_eq_true hb | replace hb := of_decide_eq_false hb | replace hb := bne_t hb | replace hb := bne_f hb | skip); all_goals (try (exfalso; omega)))
    | (apply aw_cond; exact rfl; all_goals intro hb; all_goals (try simp only [hb]); all_goals (first | replace hb := of_decide_eq_true hb | replace hb := of_decide_eq_false hb | replace hb := bne_t hb | replace hb := bne_f hb | skip); all_goals (try (exfalso; omega))))
  refine aw_conv (fun w hw => ⟨_, hw.own_nil 129 6, ?_⟩)
  have hml : ∀ k, ((l.take k).filter (isSide s)).length ≤ k := fun k => by
    have := List.length_filter_le (isSide s) (l.take k); simp at this; omega
  refine aw_loop (α := Nat × Option Addr × Nat) (E := fun x => [(1, .int .i64 s), (5, .slice x.2.1 ((l.take x.1).filter (isSide s)).length x.2.2), (13, .slice A l.length c), (14, .int .i64 l.length), (15, .int .i64 x.1)])
    (H := fun x => .own x.2.1 ((l.take x.1).filter (isSide s)).length x.2.2 129 6 (((l.take x.1).filter (isSide s)).flatMap Order.enc) :: h) (μ := fun x => l.length - x.1)
    (S := fun x => x.1 ≤ l.length) (0, none, 0) (J := []) (Nat.zero_le _) ⟨rfl, rfl, rfl, rfl, rfl, trivial⟩ (List.Perm.refl _) ?_
  rintro ⟨k, A5, c5⟩ hk
  dsimp only at hk ⊢
  have hmk := hml k
  by_cases hlt : k < l.length
  · obtain ⟨x, hx⟩ : ∃ x, l[k]? = some x := ⟨l[k]'(by omega), List.getElem?_eq_getElem (by omega)⟩
    have hx2 : l[(k : Int).toNat]? = some x := by simpa using hx
    obtain ⟨g, hA⟩ := hsome (by omega)
    have hA2 : A.isSome = true := by rw [hA]; rfl
    have hd1 : decide ((k : Int) < (l.length : Int)) = true := by simp; omega
    have hrc := fun X => hr.cons (c := X)
    cases hlv : isSide s x
    · have hne : ¬ x.side = s := by simpa [isSide] using hlv
      have hs1 : (l.take (k + 1)).filter (isSide s) = (l.take k).filter (isSide s) := by
        rw [List.take_add_one, hx, List.filter_append]; simp [hlv]
      repeat' (first
        | apply aw_seq | apply aw_region | apply aw_ret | apply aw_skip | apply aw_exit | apply aw_block | apply es_nil
        | (apply es_pure hT; (iterate 4 exact rfl)) | (apply es_skip; (iterate 3 exact rfl)) | (apply es_skip0; (iterate 2 exact rfl))
        | (apply es_i64 hT; (iterate 4 exact rfl); (iterate 2 omega))
        | (apply aw_draw [] [] hmix; decide +kernel)
        | (apply es_idx hT; (iterate 8 exact rfl); (iterate 2 omega); exact hA2)
        | (apply es_load; (iterate 5 exact rfl); exact ld_elem hT rfl rfl (hrc _) Order.enc_len rfl hx2 rfl)
        | (apply es_alloc hT; (iterate 5 exact rfl); intro g7)
        | (apply es_store hT; (iterate 6 exact rfl); exact sel0; (iterate 3 exact rfl); exact Nat.le_of_ble_eq_true rfl)
        | (apply es_load; (iterate 5 exact rfl); first | exact ld_blk hT rfl rfl mem0 rfl rfl | exact ld_all hT rfl rfl mem0 rfl)
        | (apply es_load; (iterate 5 exact rfl); first | exact ld_blk hT rfl rfl mem1 rfl rfl | exact ld_all hT rfl rfl mem1 rfl)
        | (apply es_load; (iterate 5 exact rfl); first | exact ld_blk hT rfl rfl mem2 rfl rfl | exact ld_all hT rfl rfl mem2 rfl)
        | (apply es_box; (iterate 5 exact rfl); intro _) | (apply es_alloc hT; (iterate 5 exact rfl); intro _)
        | (apply aw_condT; (iterate 2 exact rfl)) | (apply aw_condF; (iterate 2 exact rfl))
        | (apply es_case; exact rfl; all_goals intro hb; all_goals (try simp only [hb]); all_goals (first | replace hb := of_decide_eq_true hb | replace hb := of_decide_eq_false hb | replace hb := bne_t hb | replace hb := bne_f hb | skip); all_goals (try (exfalso; omega)))
        | (apply aw_cond; exact rfl; all_goals intro hb; all_goals (try simp only [hb]); all_goals (first | replace hb := of_decide_eq_true hb | replace hb := of_decide_eq_false hb | replace hb := bne_t hb | replace hb := bne_f hb | skip); all_goals (try (exfalso; omega))))
      all_goals first
        | (exfalso; omega)
        | (refine loopq_end (k + 1, A5, c5) (by dsimp only; omega) (by dsimp only; omega) ⟨rfl, by dsimp only; rw [hs1]; rfl, rfl, rfl, rfl, trivial⟩ ?_
           dsimp only
           rw [hs1]
           exact dt_skip dt_end)
    · have hne : x.side = s := by simpa [isSide] using hlv
      have hs1 : (l.take (k + 1)).filter (isSide s) = (l.take k).filter (isSide s) ++ [x] := by
        rw [List.take_add_one, hx, List.filter_append]; simp [hlv]
      repeat' (first
        | apply aw_seq | apply aw_region | apply aw_ret | apply aw_skip | apply aw_exit | apply aw_block | apply es_nil
        | (apply es_pure hT; (iterate 4 exact rfl)) | (apply es_skip; (iterate 3 exact rfl)) | (apply es_skip0; (iterate 2 exact rfl))
        | (apply es_i64 hT; (iterate 4 exact rfl); (iterate 2 omega))
        | (apply aw_draw [] [] hmix; decide +kernel)
        | (apply es_idx hT; (iterate 8 exact rfl); (iterate 2 omega); exact hA2)
        | (apply es_load; (iterate 5 exact rfl); exact ld_elem hT rfl rfl (hrc _) Order.enc_len rfl hx2 rfl)
        | (apply es_alloc hT; (iterate 5 exact rfl); intro g7)
        | (apply es_store hT; (iterate 6 exact rfl); exact sel0; (iterate 3 exact rfl); exact Nat.le_of_ble_eq_true rfl)
        | (apply es_buildSlice hT; (iterate 12 exact rfl); intro g)
        | (apply es_append hT; (iterate 10 exact rfl); (first | exact sel0 | exact sel1 | exact selS sel1 | exact selS (selS sel1) | exact selS (selS (selS sel1)) | exact selS (selS (selS (selS sel1))) | exact selS (selS (selS (selS (selS sel1)))) | exact selS (selS (selS (selS (selS (selS sel1)))))); exact Reads.own mem0 rfl (Order.enc_one x); omega; (show (_ : Nat) * 48 ≤ _; omega); intro A' c')
        | (apply es_load; (iterate 5 exact rfl); first | exact ld_blk hT rfl rfl mem0 rfl rfl | exact ld_all hT rfl rfl mem0 rfl)
        | (apply es_load; (iterate 5 exact rfl); first | exact ld_blk hT rfl rfl mem1 rfl rfl | exact ld_all hT rfl rfl mem1 rfl)
        | (apply es_load; (iterate 5 exact rfl); first | exact ld_blk hT rfl rfl mem2 rfl rfl | exact ld_all hT rfl rfl mem2 rfl)
        | (apply es_box; (iterate 5 exact rfl); intro _) | (apply es_alloc hT; (iterate 5 exact rfl); intro _)
        | (apply aw_condT; (iterate 2 exact rfl)) | (apply aw_condF; (iterate 2 exact rfl))
        | (apply es_case; exact rfl; all_goals intro hb; all_goals (try simp only [hb]); all_goals (first | replace hb := of_decide_eq_true hb | replace hb := of_decide_eq_false hb | replace hb := bne_t hb | replace hb := bne_f hb | skip); all_goals (try (exfalso; omega)))
        | (apply aw_cond; exact rfl; all_goals intro hb; all_goals (try simp only [hb]); all_goals (first | replace hb := of_decide_eq_true hb | replace hb := of_decide_eq_false hb | replace hb := bne_t hb | replace hb := bne_f hb | skip); all_goals (try (exfalso; omega))))
      all_goals first
        | (exfalso; omega)
        | (refine loopq_end (k + 1, A', c') (by dsimp only; omega) (by dsimp only; omega) ⟨rfl, by dsimp only; rw [hs1, List.length_append]; rfl, rfl, rfl, rfl, trivial⟩ ?_
           dsimp only
           rw [hs1, List.length_append, List.flatMap_append]
           apply dt_cons; (first | exact sel0 | exact sel1 | exact selS sel1 | exact selS (selS sel1) | exact selS (selS (selS sel1)) | exact selS (selS (selS (selS sel1))) | exact selS (selS (selS (selS (selS sel1)))) | exact selS (selS (selS (selS (selS (selS sel1))))))
           (repeat (first | exact dt_end | apply dt_skip)))
  · obtain rfl : k = l.length := by omega
    have hd1 : decide ((l.length : Int) < (l.length : Int)) = false := by simp
    rw [List.take_length] at hmk ⊢
    have hside : ∀ o ∈ l.filter (isSide s), o.side = s := fun o ho => by simpa [isSide] using (List.mem_filter.1 ho).2
    have hsort := fun A5 c5 => book_sort W s h A5 c5 (l.filter (isSide s)) hside (by omega)
    have hfin : ∀ m : List Order, m.Perm (l.filter (isSide s)) → m.Pairwise (fun a b => ¬ cfO b a < 0) → m = sideO s l := fun m hp hs => side_sorted hu hv hp hs
    have hlen : (sideO s l).length = (l.filter (isSide s)).length := (sideO_perm s l).length_eq
    repeat' (first
      | apply aw_seq | apply aw_region | apply aw_ret | apply aw_skip | apply aw_exit | apply aw_block | apply es_nil
      | (apply es_pure hT; (iterate 4 exact rfl)) | (apply es_skip; (iterate 3 exact rfl)) | (apply es_skip0; (iterate 2 exact rfl))
      | (apply es_i64 hT; (iterate 4 exact rfl); (iterate 2 omega))
      | (apply aw_draw [] [] hmix; decide +kernel)
      | (apply es_call0 (hs := (hsort _ _)); (iterate 6 exact rfl); (rintro _ _ ⟨rfl, m, hp, hs, rfl⟩; obtain rfl := hfin m hp hs))
      | (apply es_call (hs := (hsort _ _)); (iterate 7 exact rfl); (rintro _ _ ⟨rfl, m, hp, hs, rfl⟩; obtain rfl := hfin m hp hs))
      | (apply es_load; (iterate 5 exact rfl); first | exact ld_blk hT rfl rfl mem0 rfl rfl | exact ld_all hT rfl rfl mem0 rfl)
      | (apply es_load; (iterate 5 exact rfl); first | exact ld_blk hT rfl rfl mem1 rfl rfl | exact ld_all hT rfl rfl mem1 rfl)
      | (apply es_load; (iterate 5 exact rfl); first | exact ld_blk hT rfl rfl mem2 rfl rfl | exact ld_all hT rfl rfl mem2 rfl)
      | (apply es_box; (iterate 5 exact rfl); intro _) | (apply es_alloc hT; (iterate 5 exact rfl); intro _)
      | (apply aw_condT; (iterate 2 exact rfl)) | (apply aw_condF; (iterate 2 exact rfl))
      | (apply es_case; exact rfl; all_goals intro hb; all_goals (try simp only [hb]); all_goals (first | replace hb := of_decide_eq_true hb | replace hb := of_decide_eq_false hb | replace hb := bne_t hb | replace hb := bne_f hb | skip); all_goals (try (exfalso; omega)))
      | (apply aw_cond; exact rfl; all_goals intro hb; all_goals (try simp only [hb]); all_goals (first | replace hb := of_decide_eq_true hb | replace hb := of_decide_eq_false hb | replace hb := bne_t hb | replace hb := bne_f hb | skip); all_goals (try (exfalso; omega))))
    apply ret1; exact rfl
    refine ⟨_, dt_end, fun w hw => ⟨A5, c5, by rw [hlen], rfl, hw.ownF mem0⟩⟩

/-! ### levels -/
theorem levels_pos {o : List Order} (ho : ∀ x ∈ o, 1 ≤ x.left ∧ x.left ≤ 1000000) (hb : o.length ≤ 1000000) : ∀ v ∈ levelsO o, 1 ≤ v.qty ∧ v.qty ≤ 1000000 * o.length := by
  have key : ∀ (o : List Order) (v : List Lvl) (n : Nat), (∀ x ∈ o, 1 ≤ x.left ∧ x.left ≤ 1000000) → (∀ y ∈ v, 1 ≤ y.qty ∧ y.qty ≤ 1000000 * (n : Int)) → ∀ y ∈ o.foldl addLv v, 1 ≤ y.qty ∧ y.qty ≤ 1000000 * ((n + o.length : Nat) : Int) := by
    intro o
    induction o with
    | nil => intro v n _ hv y hy; simpa using hv y hy
    | cons x o ih =>
      intro v n ho hv y hy
      rw [List.foldl_cons] at hy
      have hx := ho x List.mem_cons_self
      have := ih (addLv v x) (n + 1) (fun z hz => ho z (List.mem_cons_of_mem _ hz)) (fun z hz => ?_) y hy
      · rw [List.length_cons]
        have e : ((n + 1 + o.length : Nat) : Int) = ((n + (o.length + 1) : Nat) : Int) := by omega
        rw [e] at this; exact this
      · unfold addLv at hz
        have hmono : ∀ y ∈ v, 1 ≤ y.qty ∧ y.qty ≤ 1000000 * ((n + 1 : Nat) : Int) := fun y hy => by have := hv y hy; omega
        split at hz
        · rename_i w hw
          have hwv : w ∈ v := List.mem_of_getLast? hw
          split at hz
          · rcases List.mem_append.1 hz with h | h
            · exact hmono z ((List.dropLast_sublist v).subset h)
            · rw [List.mem_singleton.1 h]; have := hv w hwv; dsimp only; omega
          · rcases List.mem_append.1 hz with h | h
            · exact hmono z h
            · rw [List.mem_singleton.1 h]; dsimp only; omega
        · rw [List.mem_singleton.1 hz]; dsimp only; omega
  intro v hv
  have := key o [] 0 ho (fun y hy => by cases hy) v hv
  simpa using this

theorem addLv_last {v : List Lvl} {x : Lvl} {o : Order} (h : v[v.length - 1]? = some x) (hp : x.price = o.price) : addLv v o = v.set (v.length - 1) ⟨x.price, x.qty + o.left⟩ := by
  have hl : v.getLast? = some x := by rw [List.getLast?_eq_getElem?]; exact h
  unfold addLv
  rw [hl]
  dsimp only
  rw [if_pos hp]
  have hne : v ≠ [] := fun e => by rw [e] at h; simp at h
  obtain ⟨u, y, rfl⟩ := List.eq_nil_or_concat v |>.resolve_left hne
  simp
theorem addLv_new {v : List Lvl} {o : Order} (h : ∀ x, v[v.length - 1]? = some x → x.price ≠ o.price) : addLv v o = v ++ [⟨o.price, o.left⟩] := by
  unfold addLv
  split
  · rename_i x hx
    rw [List.getLast?_eq_getElem?] at hx
    rw [if_neg (h x hx)]
  · rename_i hx
    rw [List.getLast?_eq_none_iff] at hx
    rw [hx]; rfl

set_option maxHeartbeats 1000000 in
theorem book_Levels (W : World) (h : List Chunk) (p : Nat) (A : Option Addr) (c : Nat) (l : List Order) (s : Int) (m1 : Chunk.blk p 126 [.slice A l.length c] ∈ h) (m2 : Chunk.own A l.length c 129 6 (l.flatMap Order.enc) ∈ h) (hb : l.length ≤ 1000000) (hu : uqSeq l) (hv : ∀ o ∈ l, isB o.side = true) (hq : ∀ o ∈ l, 1 ≤ o.left ∧ o.left ≤ 1000000) :
    FSpec Try.prog W 35 [.pointer (some ⟨p, 0, none⟩), .int .i64 s] h
      (fun v h' => ∃ A' c', v = .slice A' (levelsO (sideO s l)).length c' ∧ h' = .own A' (levelsO (sideO s l)).length c' 87 2 ((levelsO (sideO s l)).flatMap Lvl.enc) :: h ∧ OwnF A' (levelsO (sideO s l)).length c' 2 ((levelsO (sideO s l)).flatMap Lvl.enc)) := by
  refine FSpec.dropF ?_
  refine spec_body Try.func35 rfl rfl Try.results35 Try.ntmps35 rfl rfl ?_
  have hside := book_Side W h p A c l s m1 m2 hb hu hv
  have hsl := sideO_len s l
  have hsq : ∀ o ∈ sideO s l, 1 ≤ o.left ∧ o.left ≤ 1000000 := fun o ho => hq o (sideO_side ho).1
  generalize sideO s l = sl at hside hsl hsq
  repeat' (first
    | apply aw_seq | apply aw_region | apply aw_ret | apply aw_skip | apply aw_exit | apply aw_block | apply es_nil
    | (apply es_pure hT; (iterate 4 exact rfl)) | (apply es_skip; (iterate 3 exact rfl)) | (apply es_skip0; (iterate 2 exact rfl))
    | (apply es_i64 hT; (iterate 4 exact rfl); (iterate 2 omega))
    | (apply aw_draw [] [] hmix; decide +kernel)
    | (apply es_call (hs := hside); (iterate 7 exact rfl); rintro _ _ ⟨AS, cS, rfl, rfl, hfS⟩)
    | (apply es_load; (iterate 5 exact rfl); first | exact ld_blk hT rfl rfl mem0 rfl rfl | exact ld_all hT rfl rfl mem0 rfl)
    | (apply es_load; (iterate 5 exact rfl); first | exact ld_blk hT rfl rfl mem1 rfl rfl | exact ld_all hT rfl rfl mem1 rfl)
    | (apply es_load; (iterate 5 exact rfl); first | exact ld_blk hT rfl rfl mem2 rfl rfl | exact ld_all hT rfl rfl mem2 rfl)
    | (apply es_box; (iterate 5 exact rfl); intro _) | (apply es_alloc hT; (iterate 5 exact rfl); intro _)
    | (apply aw_condT; (iterate 2 exact rfl)) | (apply aw_condF; (iterate 2 exact rfl))
    | (apply es_case; exact rfl; all_goals intro hb; all_goals (try simp only [hb]); all_goals (first | replace hb := of_decide_eq_true hb | replace hb := of_decide_eq_false hb | replace hb := bne_t hb | replace hb := bne_f hb | skip); all_goals (try (exfalso; omega)))
    | (apply aw_cond; exact rfl; all_goals intro hb; all_goals (try simp only [hb]); all_goals (first | replace hb := of_decide_eq_true hb | replace hb := of_decide_eq_false hb | replace hb := bne_t hb | replace hb := bne_f hb | skip); all_goals (try (exfalso; omega))))
  refine aw_conv (fun w hw => ⟨_, hw.own_nil 87 2, ?_⟩)
  have hll : ∀ k, k ≤ sl.length → (levelsO (sl.take k)).length ≤ k := by
    intro k
    induction k with
    | zero => intro _; simp [levelsO]
    | succ k ih =>
      intro hk
      obtain ⟨x, hx⟩ : ∃ x, sl[k]? = some x := ⟨sl[k]'(by omega), List.getElem?_eq_getElem (by omega)⟩
      rw [List.take_add_one, hx]
      have := addLv_len (levelsO (sl.take k)) x
      have := ih (by omega)
      rw [show (some x).toList = [x] from rfl, levelsO_add]; omega
  refine aw_loop (α := Nat × Option Addr × Nat) (E := fun x => [(5, .slice x.2.1 (levelsO (sl.take x.1)).length x.2.2), (11, .slice AS sl.length cS), (12, .int .i64 sl.length), (13, .int .i64 x.1)])
    (H := fun x => .own x.2.1 (levelsO (sl.take x.1)).length x.2.2 87 2 ((levelsO (sl.take x.1)).flatMap Lvl.enc) :: .own AS sl.length cS 129 6 (sl.flatMap Order.enc) :: h) (μ := fun x => sl.length - x.1)
    (S := fun x => x.1 ≤ sl.length) (0, none, 0) (J := []) (Nat.zero_le _) ⟨rfl, rfl, rfl, rfl, trivial⟩ (List.Perm.refl _) ?_
  rintro ⟨k, A5, c5⟩ hk
  dsimp only at hk ⊢
  refine aw_own mem0 (fun hf5 => ?_)
  have hmk := hll k hk
  by_cases hlt : k < sl.length
  · obtain ⟨x, hx⟩ : ∃ x, sl[k]? = some x := ⟨sl[k]'(by omega), List.getElem?_eq_getElem (by omega)⟩
    have hx2 : sl[(k : Int).toNat]? = some x := by simpa using hx
    have hA := hfS.some_ (by omega)
    have hd1 : decide ((k : Int) < (sl.length : Int)) = true := by simp; omega
    have hstep : levelsO (sl.take (k + 1)) = addLv (levelsO (sl.take k)) x := by
      rw [List.take_add_one, hx, show (some x).toList = [x] from rfl, levelsO_add]
    have hqx := hsq x (List.mem_of_getElem? hx)
    have hqv := levels_pos (o := sl.take k) (fun o ho => hsq o (List.mem_of_mem_take ho)) (by simp; omega)
    have htl : ((sl.take k).length : Int) ≤ 1000000 := by simp; omega
    generalize hvl : levelsO (sl.take k) = v at hf5 hmk hstep hqv ⊢
    by_cases h0 : v.length = 0
    · have hv0 : v = [] := List.eq_nil_of_length_eq_zero h0
      have hadd : addLv v x = v ++ [⟨x.price, x.left⟩] := addLv_new (fun y hy => by rw [hv0] at hy; simp at hy)
      have hd2 : decide (((v.length : Nat) : Int) > 0) = false := by simp; omega
      repeat' (first
        | apply aw_seq | apply aw_region | apply aw_ret | apply aw_skip | apply aw_exit | apply aw_block | apply es_nil
        | (apply es_pure hT; (iterate 4 exact rfl)) | (apply es_skip; (iterate 3 exact rfl)) | (apply es_skip0; (iterate 2 exact rfl))
        | (apply es_i64 hT; (iterate 4 exact rfl); (iterate 2 omega))
        | (apply aw_draw [] [] hmix; decide +kernel)
        | (apply es_idx hT; (iterate 8 exact rfl); (iterate 2 omega); exact hA)
        | (apply es_load; (iterate 5 exact rfl); exact ld_elem hT rfl rfl (hfS.reads mem1) Order.enc_len rfl hx2 rfl)
        | (apply es_alloc hT; (iterate 5 exact rfl); intro g7)
        | (apply es_store hT; (iterate 6 exact rfl); exact sel0; (iterate 3 exact rfl); exact Nat.le_of_ble_eq_true rfl)
        | (apply es_build hT; (iterate 4 exact rfl))
        | (apply es_buildSlice hT; (iterate 12 exact rfl); intro g)
        | (apply es_append hT; (iterate 10 exact rfl); (first | exact sel0 | exact sel1 | exact selS sel1 | exact selS (selS sel1) | exact selS (selS (selS sel1)) | exact selS (selS (selS (selS sel1))) | exact selS (selS (selS (selS (selS sel1)))) | exact selS (selS (selS (selS (selS (selS sel1)))))); exact Reads.own mem0 rfl (Lvl.enc_one ⟨x.price, x.left⟩); omega; (show (_ : Nat) * 16 ≤ _; omega); intro A' c')
        | (apply es_load; (iterate 5 exact rfl); first | exact ld_blk hT rfl rfl mem0 rfl rfl | exact ld_all hT rfl rfl mem0 rfl)
        | (apply es_load; (iterate 5 exact rfl); first | exact ld_blk hT rfl rfl mem1 rfl rfl | exact ld_all hT rfl rfl mem1 rfl)
        | (apply es_load; (iterate 5 exact rfl); first | exact ld_blk hT rfl rfl mem2 rfl rfl | exact ld_all hT rfl rfl mem2 rfl)
        | (apply es_load; (iterate 5 exact rfl); first | exact ld_blk hT rfl rfl mem0 rfl rfl | exact ld_all hT rfl rfl mem0 rfl)
        | (apply es_load; (iterate 5 exact rfl); first | exact ld_blk hT rfl rfl (List.mem_cons_of_mem _ mem0) rfl rfl | exact ld_all hT rfl rfl (List.mem_cons_of_mem _ mem0) rfl)
        | (apply es_load; (iterate 5 exact rfl); first | exact ld_blk hT rfl rfl mem1 rfl rfl | exact ld_all hT rfl rfl mem1 rfl)
        | (apply es_load; (iterate 5 exact rfl); first | exact ld_blk hT rfl rfl (List.mem_cons_of_mem _ mem1) rfl rfl | exact ld_all hT rfl rfl (List.mem_cons_of_mem _ mem1) rfl)
        | (apply es_box; (iterate 5 exact rfl); intro _) | (apply es_alloc hT; (iterate 5 exact rfl); intro _)
        | (apply aw_condT; (iterate 2 exact rfl)) | (apply aw_condF; (iterate 2 exact rfl))
        | (apply es_case; exact rfl; all_goals intro hb; all_goals (try simp only [hb]); all_goals (first | replace hb := of_decide_eq_true hb | replace hb := of_decide_eq_false hb | replace hb := bne_t hb | replace hb := bne_f hb | skip); all_goals (try (exfalso; omega)))
        | (apply aw_cond; exact rfl; all_goals intro hb; all_goals (try simp only [hb]); all_goals (first | replace hb := of_decide_eq_true hb | replace hb := of_decide_eq_false hb | replace hb := bne_t hb | replace hb := bne_f hb | skip); all_goals (try (exfalso; omega))))
      all_goals first
        | (exfalso; omega)
        | (refine loopq_end (k + 1, A', c') (by dsimp only; omega) (by dsimp only; omega) ⟨by dsimp only; rw [hstep, hadd, List.length_append]; rfl, rfl, rfl, rfl, trivial⟩ ?_
           dsimp only
           rw [hstep, hadd, List.length_append, List.flatMap_append]
           apply dt_cons; (first | exact sel0 | exact sel1 | exact selS sel1 | exact selS (selS sel1) | exact selS (selS (selS sel1)) | exact selS (selS (selS (selS sel1))) | exact selS (selS (selS (selS (selS sel1)))) | exact selS (selS (selS (selS (selS (selS sel1))))))
           apply dt_cons; (first | exact sel0 | exact sel1 | exact selS sel1 | exact selS (selS sel1) | exact selS (selS (selS sel1)) | exact selS (selS (selS (selS sel1))) | exact selS (selS (selS (selS (selS sel1)))) | exact selS (selS (selS (selS (selS (selS sel1))))))
           (repeat (first | exact dt_end | apply dt_skip)))
        | (exfalso; simp_all; done)
    · obtain ⟨y, hy⟩ : ∃ y, v[v.length - 1]? = some y := ⟨v[v.length - 1]'(by omega), List.getElem?_eq_getElem (by omega)⟩
      have hy2 : v[((v.length : Int) - 1).toNat]? = some y := by rw [show ((v.length : Int) - 1).toNat = v.length - 1 by omega]; exact hy
      have hA5 := hf5.some_ (by omega)
      have hd2 : decide (((v.length : Nat) : Int) > 0) = true := by simp; omega
      have hqy := hqv y (List.mem_of_getElem? hy)
      by_cases hpp : y.price = x.price
      · have hadd := addLv_last (o := x) hy hpp
        have hlay : lay (v.flatMap Lvl.enc) (((v.length : Int) - 1).toNat * 2 + 1) [.int .i64 (y.qty + x.left)] = (addLv v x).flatMap Lvl.enc := by
          rw [hadd, show ((v.length : Int) - 1).toNat = v.length - 1 by omega, flat_lay Lvl.enc_len (x' := ⟨y.price, y.qty + x.left⟩) hy (Nat.le_of_ble_eq_true rfl) rfl]
        have hlen : (addLv v x).length = v.length := by rw [hadd]; simp
        repeat' (first
          | apply aw_seq | apply aw_region | apply aw_ret | apply aw_skip | apply aw_exit | apply aw_block | apply es_nil
          | (apply es_pure hT; (iterate 4 exact rfl)) | (apply es_skip; (iterate 3 exact rfl)) | (apply es_skip0; (iterate 2 exact rfl))
          | (apply es_i64 hT; (iterate 4 exact rfl); (iterate 2 omega))
          | (apply aw_draw [] [] hmix; decide +kernel)
          | (apply es_idx hT; (iterate 8 exact rfl); (iterate 2 omega); first | exact hA | exact hA5)
          | (apply es_load; (iterate 5 exact rfl); first | exact ld_elem hT rfl rfl (hfS.reads mem1) Order.enc_len rfl hx2 rfl | exact ld_fld hT rfl rfl (hf5.reads mem1) Lvl.enc_len (adr_add _ _ _) hy2 (by decide) rfl)
          | (apply es_alloc hT; (iterate 5 exact rfl); intro g7)
          | (apply es_store hT; (iterate 6 exact rfl); exact sel0; (iterate 3 exact rfl); exact Nat.le_of_ble_eq_true rfl)
          | (apply es_storeRow hT; (iterate 6 exact rfl); (first | exact sel0 | exact sel1 | exact selS sel1 | exact selS (selS sel1) | exact selS (selS (selS sel1)) | exact selS (selS (selS (selS sel1))) | exact selS (selS (selS (selS (selS sel1)))) | exact selS (selS (selS (selS (selS (selS sel1)))))); exact adr_add _ _ _; exact rfl; exact rfl; (show (((v.length : Int) - 1).toNat * 2 + 1) + 1 ≤ v.length * 2; omega); omega)
          | (apply es_load; (iterate 5 exact rfl); first | exact ld_blk hT rfl rfl mem0 rfl rfl | exact ld_all hT rfl rfl mem0 rfl)
          | (apply es_load; (iterate 5 exact rfl); first | exact ld_blk hT rfl rfl mem1 rfl rfl | exact ld_all hT rfl rfl mem1 rfl)
          | (apply es_load; (iterate 5 exact rfl); first | exact ld_blk hT rfl rfl mem2 rfl rfl | exact ld_all hT rfl rfl mem2 rfl)
          | (apply es_load; (iterate 5 exact rfl); first | exact ld_blk hT rfl rfl mem0 rfl rfl | exact ld_all hT rfl rfl mem0 rfl)
          | (apply es_load; (iterate 5 exact rfl); first | exact ld_blk hT rfl rfl (List.mem_cons_of_mem _ mem0) rfl rfl | exact ld_all hT rfl rfl (List.mem_cons_of_mem _ mem0) rfl)
          | (apply es_load; (iterate 5 exact rfl); first | exact ld_blk hT rfl rfl mem1 rfl rfl | exact ld_all hT rfl rfl mem1 rfl)
          | (apply es_load; (iterate 5 exact rfl); first | exact ld_blk hT rfl rfl (List.mem_cons_of_mem _ mem1) rfl rfl | exact ld_all hT rfl rfl (List.mem_cons_of_mem _ mem1) rfl)
          | (apply es_box; (iterate 5 exact rfl); intro _) | (apply es_alloc hT; (iterate 5 exact rfl); intro _)
          | (apply aw_condT; (iterate 2 exact rfl)) | (apply aw_condF; (iterate 2 exact rfl))
          | (apply es_case; exact rfl; all_goals intro hb; all_goals (try simp only [hb]); all_goals (first | replace hb := of_decide_eq_true hb | replace hb := of_decide_eq_false hb | replace hb := bne_t hb | replace hb := bne_f hb | skip); all_goals (try (exfalso; omega)))
          | (apply aw_cond; exact rfl; all_goals intro hb; all_goals (try simp only [hb]); all_goals (first | replace hb := of_decide_eq_true hb | replace hb := of_decide_eq_false hb | replace hb := bne_t hb | replace hb := bne_f hb | skip); all_goals (try (exfalso; omega))))
        all_goals first
          | (exfalso; omega)
          | (refine loopq_end (k + 1, A5, c5) (by dsimp only; omega) (by dsimp only; omega) ⟨by dsimp only; rw [hstep, hlen]; rfl, rfl, rfl, rfl, trivial⟩ ?_
             dsimp only
             rw [hstep, hlen, ← hlay]
             apply dt_cons; (first | exact sel0 | exact sel1 | exact selS sel1 | exact selS (selS sel1) | exact selS (selS (selS sel1)) | exact selS (selS (selS (selS sel1))) | exact selS (selS (selS (selS (selS sel1)))) | exact selS (selS (selS (selS (selS (selS sel1))))))
             apply dt_cons; (first | exact sel0 | exact sel1 | exact selS sel1 | exact selS (selS sel1) | exact selS (selS (selS sel1)) | exact selS (selS (selS (selS sel1))) | exact selS (selS (selS (selS (selS sel1)))) | exact selS (selS (selS (selS (selS (selS sel1))))))
             (repeat (first | exact dt_end | apply dt_skip)))
          | (exfalso; simp_all; done)
      · have hadd : addLv v x = v ++ [⟨x.price, x.left⟩] := addLv_new (fun z hz => by rw [hy] at hz; cases hz; exact hpp)
        repeat' (first
          | apply aw_seq | apply aw_region | apply aw_ret | apply aw_skip | apply aw_exit | apply aw_block | apply es_nil
          | (apply es_pure hT; (iterate 4 exact rfl)) | (apply es_skip; (iterate 3 exact rfl)) | (apply es_skip0; (iterate 2 exact rfl))
          | (apply es_i64 hT; (iterate 4 exact rfl); (iterate 2 omega))
          | (apply aw_draw [] [] hmix; decide +kernel)
          | (apply es_idx hT; (iterate 8 exact rfl); (iterate 2 omega); first | exact hA | exact hA5)
          | (apply es_load; (iterate 5 exact rfl); first | exact ld_elem hT rfl rfl (hfS.reads mem1) Order.enc_len rfl hx2 rfl | exact ld_fld hT rfl rfl (hf5.reads mem1) Lvl.enc_len (adr_add _ _ _) hy2 (by decide) rfl)
          | (apply es_alloc hT; (iterate 5 exact rfl); intro g7)
          | (apply es_store hT; (iterate 6 exact rfl); exact sel0; (iterate 3 exact rfl); exact Nat.le_of_ble_eq_true rfl)
          | (apply es_build hT; (iterate 4 exact rfl))
          | (apply es_buildSlice hT; (iterate 12 exact rfl); intro g)
          | (apply es_append hT; (iterate 10 exact rfl); (first | exact sel0 | exact sel1 | exact selS sel1 | exact selS (selS sel1) | exact selS (selS (selS sel1)) | exact selS (selS (selS (selS sel1))) | exact selS (selS (selS (selS (selS sel1)))) | exact selS (selS (selS (selS (selS (selS sel1)))))); exact Reads.own mem0 rfl (Lvl.enc_one ⟨x.price, x.left⟩); omega; (show (_ : Nat) * 16 ≤ _; omega); intro A' c')
          | (apply es_load; (iterate 5 exact rfl); first | exact ld_blk hT rfl rfl mem0 rfl rfl | exact ld_all hT rfl rfl mem0 rfl)
          | (apply es_load; (iterate 5 exact rfl); first | exact ld_blk hT rfl rfl mem1 rfl rfl | exact ld_all hT rfl rfl mem1 rfl)
          | (apply es_load; (iterate 5 exact rfl); first | exact ld_blk hT rfl rfl mem2 rfl rfl | exact ld_all hT rfl rfl mem2 rfl)
          | (apply es_load; (iterate 5 exact rfl); first | exact ld_blk hT rfl rfl mem0 rfl rfl | exact ld_all hT rfl rfl mem0 rfl)
          | (apply es_load; (iterate 5 exact rfl); first | exact ld_blk hT rfl rfl (List.mem_cons_of_mem _ mem0) rfl rfl | exact ld_all hT rfl rfl (List.mem_cons_of_mem _ mem0) rfl)
          | (apply es_load; (iterate 5 exact rfl); first | exact ld_blk hT rfl rfl mem1 rfl rfl | exact ld_all hT rfl rfl mem1 rfl)
          | (apply es_load; (iterate 5 exact rfl); first | exact ld_blk hT rfl rfl (List.mem_cons_of_mem _ mem1) rfl rfl | exact ld_all hT rfl rfl (List.mem_cons_of_mem _ mem1) rfl)
          | (apply es_box; (iterate 5 exact rfl); intro _) | (apply es_alloc hT; (iterate 5 exact rfl); intro _)
          | (apply aw_condT; (iterate 2 exact rfl)) | (apply aw_condF; (iterate 2 exact rfl))
          | (apply es_case; exact rfl; all_goals intro hb; all_goals (try simp only [hb]); all_goals (first | replace hb := of_decide_eq_true hb | replace hb := of_decide_eq_false hb | replace hb := bne_t hb | replace hb := bne_f hb | skip); all_goals (try (exfalso; omega)))
          | (apply aw_cond; exact rfl; all_goals intro hb; all_goals (try simp only [hb]); all_goals (first | replace hb := of_decide_eq_true hb | replace hb := of_decide_eq_false hb | replace hb := bne_t hb | replace hb := bne_f hb | skip); all_goals (try (exfalso; omega))))
        all_goals first
          | (exfalso; omega)
          | (refine loopq_end (k + 1, A', c') (by dsimp only; omega) (by dsimp only; omega) ⟨by dsimp only; rw [hstep, hadd, List.length_append]; rfl, rfl, rfl, rfl, trivial⟩ ?_
             dsimp only
             rw [hstep, hadd, List.length_append, List.flatMap_append]
             apply dt_cons; (first | exact sel0 | exact sel1 | exact selS sel1 | exact selS (selS sel1) | exact selS (selS (selS sel1)) | exact selS (selS (selS (selS sel1))) | exact selS (selS (selS (selS (selS sel1)))) | exact selS (selS (selS (selS (selS (selS sel1))))))
             apply dt_cons; (first | exact sel0 | exact sel1 | exact selS sel1 | exact selS (selS sel1) | exact selS (selS (selS sel1)) | exact selS (selS (selS (selS sel1))) | exact selS (selS (selS (selS (selS sel1)))) | exact selS (selS (selS (selS (selS (selS sel1))))))
             (repeat (first | exact dt_end | apply dt_skip)))
          | (exfalso; simp_all; done)
  · obtain rfl : k = sl.length := by omega
    have hd1 : decide ((sl.length : Int) < (sl.length : Int)) = false := by simp
    rw [List.take_length] at hf5 ⊢
    repeat' (first
      | apply aw_seq | apply aw_region | apply aw_ret | apply aw_skip | apply aw_exit | apply aw_block | apply es_nil
      | (apply es_pure hT; (iterate 4 exact rfl)) | (apply es_skip; (iterate 3 exact rfl)) | (apply es_skip0; (iterate 2 exact rfl))
      | (apply es_i64 hT; (iterate 4 exact rfl); (iterate 2 omega))
      | (apply aw_draw [] [] hmix; decide +kernel)
      | (apply es_load; (iterate 5 exact rfl); first | exact ld_blk hT rfl rfl mem0 rfl rfl | exact ld_all hT rfl rfl mem0 rfl)
      | (apply es_load; (iterate 5 exact rfl); first | exact ld_blk hT rfl rfl mem1 rfl rfl | exact ld_all hT rfl rfl mem1 rfl)
      | (apply es_load; (iterate 5 exact rfl); first | exact ld_blk hT rfl rfl mem2 rfl rfl | exact ld_all hT rfl rfl mem2 rfl)
      | (apply es_box; (iterate 5 exact rfl); intro _) | (apply es_alloc hT; (iterate 5 exact rfl); intro _)
      | (apply aw_condT; (iterate 2 exact rfl)) | (apply aw_condF; (iterate 2 exact rfl))
      | (apply es_case; exact rfl; all_goals intro hb; all_goals (try simp only [hb]); all_goals (first | replace hb := of_decide_eq_true hb | replace hb := of_decide_eq_false hb | replace hb := bne_t hb | replace hb := bne_f hb | skip); all_goals (try (exfalso; omega)))
      | (apply aw_cond; exact rfl; all_goals intro hb; all_goals (try simp only [hb]); all_goals (first | replace hb := of_decide_eq_true hb | replace hb := of_decide_eq_false hb | replace hb := bne_t hb | replace hb := bne_f hb | skip); all_goals (try (exfalso; omega))))
    apply ret1; exact rfl
    exact ⟨.own A5 (levelsO sl).length c5 87 2 ((levelsO sl).flatMap Lvl.enc) :: h, by apply dt_cons; (first | exact sel0 | exact sel1 | exact selS sel1 | exact selS (selS sel1) | exact selS (selS (selS sel1)) | exact selS (selS (selS (selS sel1))) | exact selS (selS (selS (selS (selS sel1)))) | exact selS (selS (selS (selS (selS (selS sel1)))))); (repeat (first | exact dt_end | apply dt_skip)), fun w hw => ⟨A5, c5, rfl, rfl, hf5⟩⟩
end Go.Proofs.Ytjcnaeengplcbaa

set_option linter.unusedSimpArgs false
set_option linter.unusedVariables false
namespace Go.Proofs.Ytjcnaeengplcbaa
open Go Go.Sl
attribute [local irreducible] AW ES EP Ld RetQ
set_option maxRecDepth 100000

structure BookB (l : List Order) : Prop where
  seq : uqSeq l
  id : l.Pairwise fun a b => a.id ≠ b.id
  ok : ∀ o ∈ l, okO o = true
  len : l.length ≤ 64
theorem BookB.nil : BookB [] := ⟨List.Pairwise.nil, List.Pairwise.nil, (fun o h => by cases h), Nat.zero_le _⟩
theorem okO_side {o : Order} (h : okO o = true) : isB o.side = true := by simp only [okO, Bool.and_eq_true] at h; exact h.2
theorem okO_left {o : Order} (h : okO o = true) : 1 ≤ o.left ∧ o.left ≤ 1000000 := by
  simp only [okO, Bool.and_eq_true, decide_eq_true_eq] at h
  exact ⟨h.1.1.1.2, h.1.1.2⟩
theorem BookB.side {l : List Order} (h : BookB l) : ∀ o ∈ l, isB o.side = true := fun o ho => okO_side (h.ok o ho)
theorem BookB.left {l : List Order} (h : BookB l) : ∀ o ∈ l, 1 ≤ o.left ∧ o.left ≤ 1000000 := fun o ho => okO_left (h.ok o ho)
theorem BookB.le {l : List Order} (h : BookB l) : l.length ≤ 1000000 := by have := h.len; omega
theorem BookB.add {l : List Order} (h : BookB l) (o : Order) : BookB (addO o l) := by
  unfold addO
  split
  · rename_i h0
    have hE := h0
    unfold addOE at hE
    have h1 : ¬ (okO o = false ∨ idxOf (clashO o) l ≥ 0) := fun hh => by rw [if_pos hh] at hE; omega
    rw [if_neg h1] at hE
    have h2 : ¬ l.length ≥ 64 := fun hh => by rw [if_pos hh] at hE; omega
    have hno : ∀ x ∈ l, clashO o x = false := idxOf_neg'.1 (by omega)
    have hok : okO o = true := by
      cases hh : okO o
      · exact absurd (.inl hh) h1
      · rfl
    have hne : ∀ x ∈ l, x.id ≠ o.id ∧ x.seq ≠ o.seq := fun x hx => by
      have := hno x hx
      simp only [clashO, Bool.or_eq_false_iff, beq_eq_false_iff_ne] at this
      exact this
    refine ⟨?_, ?_, ?_, by simp; omega⟩
    · unfold uqSeq
      rw [List.pairwise_append]
      exact ⟨h.seq, by simp, fun a ha b hb => by rw [List.mem_singleton.1 hb]; exact (hne a ha).2⟩
    · rw [List.pairwise_append]
      exact ⟨h.id, by simp, fun a ha b hb => by rw [List.mem_singleton.1 hb]; exact (hne a ha).1⟩
    · intro x hx
      rcases List.mem_append.1 hx with hx | hx
      · exact h.ok x hx
      · rw [List.mem_singleton.1 hx]; exact hok
  · exact h
end Go.Proofs.Ytjcnaeengplcbaa

set_option linter.unusedSimpArgs false
set_option linter.unusedVariables false
namespace Go.Proofs.Ytjcnaeengplcbaa
open Go Go.Sl
attribute [local irreducible] AW ES EP Ld RetQ
set_option maxRecDepth 100000

/-- less of one order: in a side, too -/
def lf (id left : Int) (x : Order) : Order := if x.id = id then { x with left := left } else x
theorem lessO_map {id left : Int} {l : List Order} (hu : l.Pairwise fun a b => a.id ≠ b.id) (hE : lessE id left l = 0) : lessO id left l = l.map (lf id left) := by
  rcases find_at (p := hasO id) l with ⟨hi, hf⟩ | ⟨i, x, hi, hx, hp, hf⟩
  · simp [lessE, getO, hf] at hE
  · have hg : getO id l = some x := hf
    have hL : lessO id left l = l.set i { x with left := left } := by simp [lessO, hg, hE, hi]
    rw [hL]
    have hxi : x.id = id := by simpa [hasO] using hp
    obtain ⟨hlt, hxe⟩ := List.getElem?_eq_some_iff.1 hx
    apply List.ext_getElem?
    intro j
    rw [List.getElem?_map]
    by_cases hij : i = j
    · subst hij
      rw [hx, List.getElem?_set_self hlt]; simp [lf, hxi]
    · rw [List.getElem?_set_ne hij]
      cases hy : l[j]? with
      | none => rfl
      | some y =>
        simp only [Option.map_some]
        obtain ⟨hjl, hye⟩ := List.getElem?_eq_some_iff.1 hy
        have hne : y.id ≠ x.id := by
          rcases Nat.lt_or_gt_of_ne hij with h | h
          · have := List.pairwise_iff_getElem.1 hu i j hlt hjl h
            rw [hxe, hye] at this; exact fun e => this e.symm
          · have := List.pairwise_iff_getElem.1 hu j i hjl hlt h
            rw [hxe, hye] at this; exact this
        rw [lf, if_neg (by rw [← hxi]; exact hne)]
theorem BookB.less {l : List Order} (h : BookB l) {id left : Int} (hE : lessE id left l = 0) : BookB (lessO id left l) := by
  rw [lessO_map h.id hE]
  have hq : 1 ≤ left ∧ ∀ x ∈ l, x.id = id → left ≤ x.left := by
    rcases find_at (p := hasO id) l with ⟨hi, hf⟩ | ⟨i, x, hi, hx, hp, hf⟩
    · simp [lessE, getO, hf] at hE
    · have hg : getO id l = some x := hf
      have hb : ¬ (left < 1 ∨ left > x.left) := fun hh => by simp [lessE, hg, hh] at hE
      refine ⟨by omega, fun y hy hyi => ?_⟩
      have hxi : x.id = id := by simpa [hasO] using hp
      obtain ⟨j, hj⟩ := List.getElem?_of_mem hy
      obtain ⟨hlt, hxe⟩ := List.getElem?_eq_some_iff.1 hx
      obtain ⟨hjl, hye⟩ := List.getElem?_eq_some_iff.1 hj
      rcases Nat.lt_trichotomy i j with h' | h' | h'
      · have := List.pairwise_iff_getElem.1 h.id i j hlt hjl h'
        rw [hxe, hye] at this; omega
      · subst h'; rw [hxe] at hye; rw [← hye]; omega
      · have := List.pairwise_iff_getElem.1 h.id j i hjl hlt h'
        rw [hxe, hye] at this; omega
  have k : ∀ x : Order, (lf id left x).id = x.id ∧ (lf id left x).seq = x.seq := fun x => by unfold lf; split <;> exact ⟨rfl, rfl⟩
  refine ⟨?_, ?_, ?_, by simpa using h.len⟩
  · unfold uqSeq; rw [List.pairwise_map]; exact h.seq.imp (fun {a b} hab => by rw [(k a).2, (k b).2]; exact hab)
  · rw [List.pairwise_map]; exact h.id.imp (fun {a b} hab => by rw [(k a).1, (k b).1]; exact hab)
  · intro o ho
    obtain ⟨x, hx, rfl⟩ := List.mem_map.1 ho
    have hok := h.ok x hx
    have hl := h.left x hx
    unfold lf
    split
    · rename_i hxi
      have := hq.2 x hx hxi
      simp only [okO, Bool.and_eq_true, decide_eq_true_eq] at hok ⊢
      obtain ⟨⟨⟨⟨⟨⟨⟨a1, a2⟩, a3⟩, a4⟩, a5⟩, a6⟩, a7⟩, a8⟩ := hok
      exact ⟨⟨⟨⟨⟨⟨⟨a1, a2⟩, a3⟩, a4⟩, hq.1⟩, by omega⟩, a7⟩, a8⟩
    · exact hok

end Go.Proofs.Ytjcnaeengplcbaa

set_option linter.unusedSimpArgs false
set_option linter.unusedVariables false
namespace Go.Proofs.Ytjcnaeengplcbaa
open Go Go.Sl
attribute [local irreducible] AW ES EP Ld RetQ
set_option maxRecDepth 100000

structure Act14 where
  kind : Int
  order : Order
def Act14.enc (a : Act14) : List Value := .int .i64 a.kind :: a.order.enc
theorem Act14.enc_len (a : Act14) : a.enc.length = 7 := rfl
theorem BookB.sub {l m : List Order} (h : BookB l) (hs : m.Sublist l) : BookB m :=
  ⟨List.Pairwise.sublist hs h.seq, h.id.sublist hs, fun o ho => h.ok o (hs.subset ho), Nat.le_trans hs.length_le h.len⟩
end Go.Proofs.Ytjcnaeengplcbaa

set_option linter.unusedSimpArgs false
set_option linter.unusedVariables false
namespace Go.Proofs.Ytjcnaeengplcbaa
open Go Go.Sl

def pqO (o : Order) : Int × Int := (o.price, o.left)
/-- prices and quantities that may be -/
def okP (l : List (Int × Int)) : Prop := ∀ x ∈ l, 1 ≤ x.1 ∧ x.1 ≤ 1000000 ∧ 1 ≤ x.2
theorem okP.tail {x : Int × Int} {l : List (Int × Int)} (h : okP (x :: l)) : okP l := fun y hy => h y (List.mem_cons_of_mem _ hy)
/-! ### a side -/
def okS (o : List Order) : Prop := ∀ x ∈ o, 1 ≤ x.price ∧ x.price ≤ 1000000 ∧ 1 ≤ x.left ∧ x.left ≤ 1000000
theorem okS.pq {o : List Order} (h : okS o) : okP (o.map pqO) := fun x hx => by
  obtain ⟨y, hy, rfl⟩ := List.mem_map.1 hx
  exact ⟨(h y hy).1, (h y hy).2.1, (h y hy).2.2.1⟩
theorem okO_price {o : Order} (h : okO o = true) : 1 ≤ o.price ∧ o.price ≤ 1000000 := by
  simp only [okO, Bool.and_eq_true, decide_eq_true_eq] at h
  exact ⟨h.1.1.1.1.1.2, h.1.1.1.1.2⟩
theorem BookB.okS {l : List Order} (h : BookB l) (s : Int) : okS (sideO s l) := fun x hx => by
  have := (sideO_side hx).1
  exact ⟨(okO_price (h.ok x this)).1, (okO_price (h.ok x this)).2, (h.left x this).1, (h.left x this).2⟩
end Go.Proofs.Ytjcnaeengplcbaa

set_option linter.unusedSimpArgs false
set_option linter.unusedVariables false
namespace Go.Proofs.Ytjcnaeengplcbaa
open Go Go.Sl

/-! ### books -/
/-- no two orders could trade -/
def uncrB (l : List Order) : Prop := ∀ a ∈ l, ∀ b ∈ l, a.side = 1 → b.side = 2 → a.price < b.price
instance (l : List Order) : Decidable (uncrB l) := by unfold uncrB; infer_instance
def headsB : List Lvl → List Lvl → Bool
  | v :: _, w :: _ => decide (v.price < w.price)
  | _, _ => true
end Go.Proofs.Ytjcnaeengplcbaa

set_option linter.unusedSimpArgs false
set_option linter.unusedVariables false
namespace Go.Proofs.Ytjcnaeengplcbaa
open Go Go.Sl
attribute [local irreducible] AW ES EP Ld RetQ
set_option maxRecDepth 100000

theorem memPairP {x y : Chunk} {h : List Chunk} (hx : x ∈ h) (hy : y ∈ h) : ∀ c ∈ [x, y], c ∈ h := fun c hc => by
  rcases List.mem_cons.1 hc with rfl | hc
  · exact hx
  · rw [List.mem_singleton.1 hc]; exact hy
def isPosR (cash : List Int) (rs : List PRow) (who bond : Int) : Bool := decide (0 ≤ who) && (decide (who < cash.length) && (decide (0 ≤ bond) && decide (bond < ((rs[who.toNat]?).map fun r => r.l.length).getD 0)))
theorem pos_is (W : World) (p : Nat) (AC : Option Addr) (cC : Nat) (AR : Option Addr) (cR : Nat) (cash : List Int) (rs : List PRow) (hl : rs.length = cash.length) (who bond : Int) :
    QSpec Try.prog W 63 [.pointer (some ⟨p, 0, none⟩), .int .i64 who, .int .i64 bond] [.blk p 121 [.slice AR rs.length cR, .slice AC cash.length cC], .own AR rs.length cR 108 1 (rs.map PRow.hd)] (.bool (isPosR cash rs who bond)) := by
  refine QSpec.ofD (fun h' hs => ?_)
  have m0 := hs _ mem0
  have m1 := hs _ mem1
  have hrd : Reads W h' AR rs.length 1 (rs.map PRow.hd) := Reads.own m1 (by simp) (fun v hv => by
    obtain ⟨y, _, rfl⟩ := List.mem_map.1 hv
    rfl)
  refine spec_body Try.func63 rfl rfl Try.results63 Try.ntmps63 rfl rfl ?_
  refine aw_reads hrd rfl (fun hA => ?_)
  by_cases hw : 0 ≤ who ∧ who < cash.length
  · obtain ⟨r, hr⟩ : ∃ r, rs[who.toNat]? = some r := ⟨rs[who.toNat]'(by omega), List.getElem?_eq_getElem (by omega)⟩
    have hA' := hA (by omega)
    have hix : (rs.map PRow.hd)[who.toNat * 1]? = some (.slice r.A r.l.length r.c) := by simp [hr]; rfl
    have hv : isPosR cash rs who bond = (decide (0 ≤ bond) && decide (bond < r.l.length)) := by
      unfold isPosR
      rw [hr, decide_eq_true hw.1, decide_eq_true hw.2]; rfl
    rw [hv]
    repeat' (first
      | apply aw_seq | apply aw_region | apply aw_ret | apply aw_skip | apply aw_exit | apply aw_block | apply es_nil
      | (apply es_pure hT; (iterate 4 exact rfl)) | (apply es_skip; (iterate 3 exact rfl)) | (apply es_skip0; (iterate 2 exact rfl))
      | (apply es_i64 hT; (iterate 4 exact rfl); (iterate 2 (first | omega | (dsimp only; omega))))
      | (apply aw_draw [] [] hmix; decide +kernel)
      | (apply es_idx hT; (iterate 8 exact rfl); (iterate 2 omega); exact hA')
      | (apply es_load; (iterate 5 exact rfl); exact ld_row hT rfl rfl hrd rfl hix)
      | (apply es_load; (iterate 5 exact rfl); first | (apply ld_blk hT; exact rfl; exact rfl; (repeat (first | exact List.mem_cons_self | exact m0 | apply List.mem_cons_of_mem | apply List.mem_append_right)); exact rfl; exact rfl) | (apply ld_all hT; exact rfl; exact rfl; (repeat (first | exact List.mem_cons_self | exact m0 | apply List.mem_cons_of_mem | apply List.mem_append_right)); exact rfl))
      | (apply es_box; (iterate 5 exact rfl); intro _) | (apply es_alloc hT; (iterate 5 exact rfl); intro _)
      | (apply aw_condT; (iterate 2 exact rfl)) | (apply aw_condF; (iterate 2 exact rfl))
      | (apply es_case; exact rfl; all_goals intro hb; all_goals (fail_if_success (change true = true at hb)); all_goals (fail_if_success (change false = false at hb)); all_goals (try dsimp only at hb); all_goals (try simp only [hb]); all_goals (first | replace hb := of_decide_eq_true hb | replace hb := of_decide_eq_false hb | replace hb := bne_t hb | replace hb := bne_f hb | replace hb := eq_of_beq hb | replace hb := ne_of_beq_false hb | skip); all_goals (try (exfalso; omega)))
      | (apply aw_cond; exact rfl; all_goals intro hb; all_goals (try dsimp only at hb); all_goals (try simp only [hb]); all_goals (first | replace hb := of_decide_eq_true hb | replace hb := of_decide_eq_false hb | replace hb := bne_t hb | replace hb := bne_f hb | replace hb := eq_of_beq hb | replace hb := ne_of_beq_false hb | skip); all_goals (try (exfalso; omega))))
    all_goals first
      | (exfalso; omega)
      | (apply ret1; exact rfl; exact ⟨by (first | (simp_all; done) | (simp; omega)), by (repeat (first | exact dt_end | (apply dt_cons; · (repeat (first | exact sel0 | apply selS | apply selApp))) | apply dt_skip | apply dt_both))⟩)
      | skip
  · have hv : isPosR cash rs who bond = false := by
      unfold isPosR
      by_cases h1 : 0 ≤ who
      · rw [decide_eq_false (show ¬ who < cash.length by omega)]; simp
      · rw [decide_eq_false h1]; simp
    rw [hv]
    repeat' (first
      | apply aw_seq | apply aw_region | apply aw_ret | apply aw_skip | apply aw_exit | apply aw_block | apply es_nil
      | (apply es_pure hT; (iterate 4 exact rfl)) | (apply es_skip; (iterate 3 exact rfl)) | (apply es_skip0; (iterate 2 exact rfl))
      | (apply es_i64 hT; (iterate 4 exact rfl); (iterate 2 (first | omega | (dsimp only; omega))))
      | (apply aw_draw [] [] hmix; decide +kernel)
      | (apply es_load; (iterate 5 exact rfl); first | (apply ld_blk hT; exact rfl; exact rfl; (repeat (first | exact List.mem_cons_self | exact m0 | apply List.mem_cons_of_mem | apply List.mem_append_right)); exact rfl; exact rfl) | (apply ld_all hT; exact rfl; exact rfl; (repeat (first | exact List.mem_cons_self | exact m0 | apply List.mem_cons_of_mem | apply List.mem_append_right)); exact rfl))
      | (apply es_box; (iterate 5 exact rfl); intro _) | (apply es_alloc hT; (iterate 5 exact rfl); intro _)
      | (apply aw_condT; (iterate 2 exact rfl)) | (apply aw_condF; (iterate 2 exact rfl))
      | (apply es_case; exact rfl; all_goals intro hb; all_goals (fail_if_success (change true = true at hb)); all_goals (fail_if_success (change false = false at hb)); all_goals (try dsimp only at hb); all_goals (try simp only [hb]); all_goals (first | replace hb := of_decide_eq_true hb | replace hb := of_decide_eq_false hb | replace hb := bne_t hb | replace hb := bne_f hb | replace hb := eq_of_beq hb | replace hb := ne_of_beq_false hb | skip); all_goals (try (exfalso; omega)))
      | (apply aw_cond; exact rfl; all_goals intro hb; all_goals (try dsimp only at hb); all_goals (try simp only [hb]); all_goals (first | replace hb := of_decide_eq_true hb | replace hb := of_decide_eq_false hb | replace hb := bne_t hb | replace hb := bne_f hb | replace hb := eq_of_beq hb | replace hb := ne_of_beq_false hb | skip); all_goals (try (exfalso; omega))))
    all_goals first
      | (exfalso; omega)
      | (apply ret1; exact rfl; exact ⟨rfl, by (repeat (first | exact dt_end | (apply dt_cons; · (repeat (first | exact sel0 | apply selS | apply selApp))) | apply dt_skip | apply dt_both))⟩)
      | skip
def cashR (cash : List Int) (who : Int) : Int := if who < 0 then 0 else (cash[who.toNat]?).getD 0
theorem pos_Cash (W : World) (p : Nat) (AC : Option Addr) (cC : Nat) (AR : Option Addr) (cR : Nat) (cash : List Int) (rs : List PRow) (hl : rs.length = cash.length) (h0 : ∀ r ∈ rs, 0 < r.l.length) (who : Int) :
    QSpec Try.prog W 50 [.pointer (some ⟨p, 0, none⟩), .int .i64 who] [.blk p 121 [.slice AR rs.length cR, .slice AC cash.length cC], .own AR rs.length cR 108 1 (rs.map PRow.hd), .own AC cash.length cC 2 1 (cash.map (Value.int .i64))] (.int .i64 (cashR cash who)) := by
  refine QSpec.ofD (fun h' hs => ?_)
  have m0 := hs _ mem0
  have m1 := hs _ mem1
  have m2 := hs _ mem2
  have hI := (pos_is W p AC cC AR cR cash rs hl who 0).mono (h' := h') (memPairP m0 m1)
  have hrd : Reads W h' AC cash.length 1 (cash.map (Value.int .i64)) := Reads.own m2 (by simp) (fun v hv => by
    obtain ⟨y, _, rfl⟩ := List.mem_map.1 hv
    rfl)
  refine spec_body Try.func50 rfl rfl Try.results50 Try.ntmps50 rfl rfl ?_
  refine aw_reads hrd rfl (fun hA => ?_)
  by_cases hw : 0 ≤ who ∧ who < cash.length
  · obtain ⟨r, hr⟩ : ∃ r, rs[who.toNat]? = some r := ⟨rs[who.toNat]'(by omega), List.getElem?_eq_getElem (by omega)⟩
    obtain ⟨n, hn⟩ : ∃ n, cash[who.toNat]? = some n := ⟨cash[who.toNat]'(by omega), List.getElem?_eq_getElem (by omega)⟩
    have hA' := hA (by omega)
    have hix : (cash.map (Value.int .i64))[who.toNat * 1]? = some (.int .i64 n) := by simp [hn]
    have hrl := h0 r (List.mem_of_getElem? hr)
    have hv : isPosR cash rs who 0 = true := by
      unfold isPosR
      rw [hr, decide_eq_true hw.1, decide_eq_true hw.2]; simp; omega
    have hc : cashR cash who = n := by unfold cashR; rw [if_neg (by omega), hn]; rfl
    rw [hv] at hI
    rw [hc]
    repeat' (first
      | apply aw_seq | apply aw_region | apply aw_ret | apply aw_skip | apply aw_exit | apply aw_block | apply es_nil
      | (apply es_pure hT; (iterate 4 exact rfl)) | (apply es_skip; (iterate 3 exact rfl)) | (apply es_skip0; (iterate 2 exact rfl))
      | (apply es_i64 hT; (iterate 4 exact rfl); (iterate 2 (first | omega | (dsimp only; omega))))
      | (apply aw_draw [] [] hmix; decide +kernel)
      | (apply es_callQ (hs := (hI.mono (by (intro c hc; (repeat (first | exact hc | apply List.mem_cons_of_mem | apply List.mem_append_right)))))); (iterate 7 exact rfl))
      | (apply es_idx hT; (iterate 8 exact rfl); (iterate 2 omega); exact hA')
      | (apply es_load; (iterate 5 exact rfl); exact ld_row hT rfl rfl hrd rfl hix)
      | (apply es_load; (iterate 5 exact rfl); first | (apply ld_blk hT; exact rfl; exact rfl; (repeat (first | exact List.mem_cons_self | exact m0 | apply List.mem_cons_of_mem | apply List.mem_append_right)); exact rfl; exact rfl) | (apply ld_all hT; exact rfl; exact rfl; (repeat (first | exact List.mem_cons_self | exact m0 | apply List.mem_cons_of_mem | apply List.mem_append_right)); exact rfl))
      | (apply es_box; (iterate 5 exact rfl); intro _) | (apply es_alloc hT; (iterate 5 exact rfl); intro _)
      | (apply aw_condT; (iterate 2 exact rfl)) | (apply aw_condF; (iterate 2 exact rfl))
      | (apply es_case; exact rfl; all_goals intro hb; all_goals (fail_if_success (change true = true at hb)); all_goals (fail_if_success (change false = false at hb)); all_goals (try dsimp only at hb); all_goals (try simp only [hb]); all_goals (first | replace hb := of_decide_eq_true hb | replace hb := of_decide_eq_false hb | replace hb := bne_t hb | replace hb := bne_f hb | replace hb := eq_of_beq hb | replace hb := ne_of_beq_false hb | skip); all_goals (try (exfalso; omega)))
      | (apply aw_cond; exact rfl; all_goals intro hb; all_goals (try dsimp only at hb); all_goals (try simp only [hb]); all_goals (first | replace hb := of_decide_eq_true hb | replace hb := of_decide_eq_false hb | replace hb := bne_t hb | replace hb := bne_f hb | replace hb := eq_of_beq hb | replace hb := ne_of_beq_false hb | skip); all_goals (try (exfalso; omega))))
    all_goals first
      | (exfalso; omega)
      | (apply ret1; exact rfl; exact ⟨rfl, by (repeat (first | exact dt_end | (apply dt_cons; · (repeat (first | exact sel0 | apply selS | apply selApp))) | apply dt_skip | apply dt_both))⟩)
      | skip
  · have hv : isPosR cash rs who 0 = false := by
      unfold isPosR
      by_cases h1 : 0 ≤ who
      · rw [decide_eq_false (show ¬ who < cash.length by omega)]; simp
      · rw [decide_eq_false h1]; simp
    have hc : cashR cash who = 0 := by
      unfold cashR
      split
      · rfl
      · rw [List.getElem?_eq_none (by omega)]; rfl
    rw [hv] at hI
    rw [hc]
    repeat' (first
      | apply aw_seq | apply aw_region | apply aw_ret | apply aw_skip | apply aw_exit | apply aw_block | apply es_nil
      | (apply es_pure hT; (iterate 4 exact rfl)) | (apply es_skip; (iterate 3 exact rfl)) | (apply es_skip0; (iterate 2 exact rfl))
      | (apply es_i64 hT; (iterate 4 exact rfl); (iterate 2 (first | omega | (dsimp only; omega))))
      | (apply aw_draw [] [] hmix; decide +kernel)
      | (apply es_callQ (hs := (hI.mono (by (intro c hc; (repeat (first | exact hc | apply List.mem_cons_of_mem | apply List.mem_append_right)))))); (iterate 7 exact rfl))
      | (apply es_load; (iterate 5 exact rfl); first | (apply ld_blk hT; exact rfl; exact rfl; (repeat (first | exact List.mem_cons_self | exact m0 | apply List.mem_cons_of_mem | apply List.mem_append_right)); exact rfl; exact rfl) | (apply ld_all hT; exact rfl; exact rfl; (repeat (first | exact List.mem_cons_self | exact m0 | apply List.mem_cons_of_mem | apply List.mem_append_right)); exact rfl))
      | (apply es_box; (iterate 5 exact rfl); intro _) | (apply es_alloc hT; (iterate 5 exact rfl); intro _)
      | (apply aw_condT; (iterate 2 exact rfl)) | (apply aw_condF; (iterate 2 exact rfl))
      | (apply es_case; exact rfl; all_goals intro hb; all_goals (fail_if_success (change true = true at hb)); all_goals (fail_if_success (change false = false at hb)); all_goals (try dsimp only at hb); all_goals (try simp only [hb]); all_goals (first | replace hb := of_decide_eq_true hb | replace hb := of_decide_eq_false hb | replace hb := bne_t hb | replace hb := bne_f hb | replace hb := eq_of_beq hb | replace hb := ne_of_beq_false hb | skip); all_goals (try (exfalso; omega)))
      | (apply aw_cond; exact rfl; all_goals intro hb; all_goals (try dsimp only at hb); all_goals (try simp only [hb]); all_goals (first | replace hb := of_decide_eq_true hb | replace hb := of_decide_eq_false hb | replace hb := bne_t hb | replace hb := bne_f hb | replace hb := eq_of_beq hb | replace hb := ne_of_beq_false hb | skip); all_goals (try (exfalso; omega))))
    all_goals first
      | (exfalso; omega)
      | (apply ret1; exact rfl; exact ⟨rfl, by (repeat (first | exact dt_end | (apply dt_cons; · (repeat (first | exact sel0 | apply selS | apply selApp))) | apply dt_skip | apply dt_both))⟩)
      | skip
end Go.Proofs.Ytjcnaeengplcbaa

set_option linter.unusedSimpArgs false
set_option linter.unusedVariables false
namespace Go.Proofs.Ytjcnaeengplcbaa
open Go Go.Sl

def putAll : List TradeR → Ps → Option Ps
  | [], p => some p
  | t :: l, p => if putE p t = 0 then putAll l (putP p t) else none
def zeroPs (np nb : Nat) : Ps := ⟨List.replicate np 0, List.replicate np (List.replicate nb 0)⟩
def eqOne (nb : Nat) (w p : Ps) (i : Nat) : Bool := cashOf w i == cashOf p i && (List.range nb).all fun (k : Nat) => posOf w i k == posOf p i k
def eqPs (np nb : Nat) (w p : Ps) : Bool := (List.range np).all (eqOne nb w p)
def sumsV (np nb : Nat) (l : List TradeR) (p : Ps) : Bool := match putAll l (zeroPs np nb) with
  | none => false
  | some w => eqPs np nb w p
/-- who has what, of so many parties and bonds, in numbers that an int64 holds -/
structure PsOK (np nb : Nat) (p : Ps) : Prop where
  nc : p.cash.length = np
  np : p.pos.length = np
  row : ∀ r ∈ p.pos, r.length = nb
  wc : ∀ n ∈ p.cash, inW n
  wr : ∀ r ∈ p.pos, ∀ n ∈ r, inW n
theorem zeroPs_ok (np nb : Nat) : PsOK np nb (zeroPs np nb) := by
  refine ⟨by simp [zeroPs], by simp [zeroPs], fun r hr => ?_, fun n hn => ?_, fun r hr n hn => ?_⟩
  · rw [(List.mem_replicate.1 hr).2]; simp
  · rw [(List.mem_replicate.1 hn).2]; unfold inW; omega
  · rw [(List.mem_replicate.1 hr).2] at hn
    rw [(List.mem_replicate.1 hn).2]; unfold inW; omega
theorem memSet {α : Type} {l : List α} {i : Nat} {x y : α} (h : y ∈ l.set i x) : y = x ∨ y ∈ l := (List.mem_or_eq_of_mem_set h).symm
theorem at0M {α : Type} {l : List α} {i : Int} {x : α} (h : at0 l i = some x) : x ∈ l := by
  unfold at0 at h
  split at h
  · cases h
  · exact List.mem_of_getElem? h
theorem at0_le {α : Type} {l : List α} {i : Int} {x : α} (h : at0 l i = some x) : 0 ≤ i ∧ i < l.length := by
  unfold at0 at h
  split at h
  · cases h
  · have := (List.getElem?_eq_some_iff.1 h).1
    omega
theorem at0_in {α : Type} {l : List α} {i : Int} (h0 : 0 ≤ i) (h1 : i < l.length) : at0 l i = some (l[i.toNat]'(by omega)) := by
  unfold at0
  rw [if_neg (by omega)]
  exact List.getElem?_eq_getElem _
theorem isPos_iff {np nb : Nat} {p : Ps} (h : PsOK np nb p) {who bond : Int} : isPos p who bond = true ↔ (0 ≤ who ∧ who < np) ∧ 0 ≤ bond ∧ bond < nb := by
  unfold isPos
  simp only [Bool.and_eq_true, decide_eq_true_eq]
  have h1 := h.nc
  have h2 := h.np
  constructor
  · rintro ⟨a, b, c, d⟩
    rw [at0_in a (by omega)] at d
    have := h.row _ (List.getElem_mem (l := p.pos) (n := who.toNat) (by omega))
    simp only [Option.getD_some] at d
    omega
  · rintro ⟨⟨a, b⟩, c, d⟩
    refine ⟨a, by omega, c, ?_⟩
    rw [at0_in a (by omega)]
    have := h.row _ (List.getElem_mem (l := p.pos) (n := who.toNat) (by omega))
    simp only [Option.getD_some]
    omega
theorem setRow_all {l : List (List Int)} {who bond n : Int} {b : Nat} (h : ∀ r ∈ l, r.length = b ∧ ∀ n ∈ r, inW n) (hw : 0 ≤ who ∧ who < l.length) (hn : inW n) : ∀ r ∈ setRow l who bond n, r.length = b ∧ ∀ n ∈ r, inW n := by
  intro r hr
  unfold setRow at hr
  rcases memSet hr with rfl | hr
  · have hx := at0_in hw.1 hw.2
    obtain ⟨h1, h2⟩ := h _ (at0M hx)
    rw [hx]
    refine ⟨by simpa using h1, fun m hm => ?_⟩
    rcases memSet hm with rfl | hm
    · exact hn
    · exact h2 m hm
  · exact h r hr
theorem putE_parts {p : Ps} {t : TradeR} (h : putE p t = 0) : isPos p t.buyer t.bond = true ∧ isPos p t.seller t.bond = true ∧ t.buyer ≠ t.seller ∧ 1 ≤ t.price ∧ 1 ≤ t.qty ∧ inI (t.price * t.qty) = true ∧ inI (posOf p t.buyer t.bond + t.qty) = true ∧ inI (posOf p t.seller t.bond - t.qty) = true ∧ inI (cashOf p t.buyer - t.price * t.qty) = true ∧ inI (cashOf p t.seller + t.price * t.qty) = true := by
  unfold putE at h
  split at h
  · cases h
  · rename_i h1
    split at h
    · rename_i h2
      simp only [Bool.and_eq_true] at h2
      simp only [not_or, Bool.not_eq_false] at h1
      exact ⟨h1.1, h1.2.1, h1.2.2.1, by omega, by omega, h2.1.1.1.1, h2.1.1.1.2, h2.1.1.2, h2.1.2, h2.2⟩
    · cases h
theorem putPs_ok {np nb : Nat} {p : Ps} (h : PsOK np nb p) (t : TradeR) : PsOK np nb (putP p t) := by
  unfold putP
  split
  · rename_i h0
    obtain ⟨b1, b2, _, _, _, _, a2, a3, a4, a5⟩ := putE_parts h0
    have b1 := (isPos_iff h).1 b1
    have b2 := (isPos_iff h).1 b2
    have hn := h.np
    have hrow : ∀ r ∈ setRow (setRow p.pos t.buyer t.bond (posOf p t.buyer t.bond + t.qty)) t.seller t.bond (posOf p t.seller t.bond - t.qty), r.length = nb ∧ ∀ n ∈ r, inW n := by
      refine setRow_all (setRow_all (fun r hr => ⟨h.row r hr, h.wr r hr⟩) (by omega) (inI_t a2)) ?_ (inI_t a3)
      unfold setRow
      simp only [List.length_set]
      omega
    refine ⟨by simp [h.nc], by unfold setRow; simp [h.np], fun r hr => (hrow r hr).1, fun n hn => ?_, fun r hr => (hrow r hr).2⟩
    rcases memSet hn with rfl | hn
    · exact inI_t a5
    · rcases memSet hn with rfl | hn
      · exact inI_t a4
      · exact h.wc n hn
  · exact h
theorem putAll_step {l : List TradeR} {k : Nat} {t : TradeR} (ht : l[k]? = some t) (p : Ps) : putAll (l.drop k) p = if putE p t = 0 then putAll (l.drop (k + 1)) (putP p t) else none := by
  obtain ⟨hk, rfl⟩ := List.getElem?_eq_some_iff.1 ht
  rw [List.drop_eq_getElem_cons hk]
  rfl
end Go.Proofs.Ytjcnaeengplcbaa

set_option linter.unusedSimpArgs false
set_option linter.unusedVariables false
namespace Go.Proofs.Ytjcnaeengplcbaa
open Go Go.Sl Go.RowKit
namespace MulK
theorem maskN (a : Nat) (ha : a < 18446744073709551616) : bits .and .u64 (a : Int) 4294967295 = ((a % 4294967296 : Nat) : Int) := by
  have h := bits_and_u64_nat a 4294967295 ha (by omega)
  have e : a &&& 4294967295 = a % 4294967296 := Nat.and_two_pow_sub_one_eq_mod a 32
  rw [e] at h
  exact h
theorem divN (a : Nat) : (a : Int) / 4294967296 = ((a / 4294967296 : Nat) : Int) := by omega
theorem mulN (a b : Nat) : (a : Int) * (b : Int) = ((a * b : Nat) : Int) := (Int.natCast_mul a b).symm
theorem addN (a b : Nat) : (a : Int) + (b : Int) = ((a + b : Nat) : Int) := (Int.natCast_add a b).symm
theorem wrapN (a : Nat) (ha : a < 18446744073709551616) : IntKind.u64.wrap (a : Int) = (a : Int) := by rw [IntKind.wrap_u64]; omega
theorem wrapM (a : Nat) : IntKind.u64.wrap (a : Int) = ((a % 18446744073709551616 : Nat) : Int) := by rw [IntKind.wrap_u64]; omega
end MulK
set_option maxHeartbeats 1000000 in
theorem mulK (x y : Nat) (hx : x < 18446744073709551616) (hy : y < 18446744073709551616) (w : World) :
    Calls Try.prog 73 #[.int .u64 x, .int .u64 y] w fun e w' => e = .returned (.tuple #[.int .u64 ((x * y / 18446744073709551616 : Nat) : Int), .int .u64 ((x * y % 18446744073709551616 : Nat) : Int)]) ∧ w' = w := by
  obtain ⟨bd, bt, bw, hhi⟩ := Lib.mul64_hi x y hx hy
  have ba := Lib.half_mul_le (a := x / 4294967296) (b := y / 4294967296) (by omega) (by omega)
  have bb := Lib.half_mul_le (a := x / 4294967296) (b := y % 4294967296) (by omega) (by omega)
  have bc := Lib.half_mul_le (a := x % 4294967296) (b := y / 4294967296) (by omega) (by omega)
  have ba' : x / 4294967296 * (y / 4294967296) < 18446744073709551616 := by omega
  have bb' : x / 4294967296 * (y % 4294967296) < 18446744073709551616 := by omega
  have bc' : x % 4294967296 * (y / 4294967296) < 18446744073709551616 := by omega
  have bh1 : x / 4294967296 * (y / 4294967296) + (x / 4294967296 * (y % 4294967296) + x % 4294967296 * (y % 4294967296) / 4294967296) / 4294967296 < 18446744073709551616 := by omega
  have bh : x / 4294967296 * (y / 4294967296) + (x / 4294967296 * (y % 4294967296) + x % 4294967296 * (y % 4294967296) / 4294967296) / 4294967296 + ((x / 4294967296 * (y % 4294967296) + x % 4294967296 * (y % 4294967296) / 4294967296) % 4294967296 + x % 4294967296 * (y / 4294967296)) / 4294967296 < 18446744073709551616 := by omega
  go_enter Try.func73, Try.ntmps73
  go_wp2
  simp only [MulK.maskN x hx, MulK.maskN y hy, MulK.divN, MulK.mulN, MulK.addN, MulK.wrapN _ bd, MulK.wrapN _ bb', MulK.wrapN _ bt, MulK.maskN _ bt, MulK.wrapN _ bc', MulK.wrapN _ bw, MulK.wrapN _ ba', MulK.wrapN _ bh1, MulK.wrapN _ bh, MulK.wrapM (x * y)]
  rw [hhi]
  go_ret2
  exact ⟨rfl, rfl⟩
theorem mul64 (W : World) (x y : Nat) (hx : x < 18446744073709551616) (hy : y < 18446744073709551616) :
    QSpec Try.prog W 73 [.int .u64 x, .int .u64 y] [] (.tuple #[.int .u64 ((x * y / 18446744073709551616 : Nat) : Int), .int .u64 ((x * y % 18446744073709551616 : Nat) : Int)]) :=
  ⟨⟨_, Try.func73, rfl, rfl⟩, fun h' hs w hw => (mulK x y hx hy w).mono fun e w' ⟨he, hww⟩ => ⟨he, by rw [hww]; exact hw⟩⟩
end Go.Proofs.Ytjcnaeengplcbaa

set_option linter.unusedSimpArgs false
set_option linter.unusedVariables false
namespace Go.Proofs.Ytjcnaeengplcbaa
open Go Go.Sl
attribute [local irreducible] AW ES EP Ld RetQ
set_option maxRecDepth 100000

/-- a number of 128 digits -/
def wideE (n : Nat) : List Value := [.int .u64 ((n / 18446744073709551616 : Nat) : Int), .int .u64 ((n % 18446744073709551616 : Nat) : Int)]
/-- a number, or none -/
def gotW (n : Option Nat) : Value := match n with
  | some n => .tuple #[.agg (wideE n).toArray, .bool true]
  | none => .tuple #[.agg (wideE 0).toArray, .bool false]

theorem fix_Times (W : World) (a b : Nat) (ha : a ≤ 9223372036854775807) (hb : b ≤ 9223372036854775807) :
    QSpec Try.prog W 64 [.int .i64 a, .int .i64 b] [] (gotW (some (a * b))) := by
  refine QSpec.ofD (fun h' hs => ?_)
  have hm := (mul64 W a b (by omega) (by omega))
  refine spec_body Try.func64 rfl rfl Try.results64 Try.ntmps64 rfl rfl ?_
  repeat' (first
    | apply aw_seq | apply aw_region | apply aw_ret | apply aw_skip | apply aw_exit | apply aw_block | apply es_nil
    | (apply es_pure hT; (iterate 4 exact rfl)) | (apply es_skip; (iterate 3 exact rfl)) | (apply es_skip0; (iterate 2 exact rfl))
    | (apply es_i64 hT; (iterate 4 exact rfl); (iterate 2 (first | omega | (dsimp only; omega))))
    | (apply aw_draw [] [] hmix; decide +kernel)
    | (apply es_alloc hT; (iterate 5 exact rfl); intro g4)
    | (apply es_u64 hT; (iterate 4 exact rfl); (iterate 2 omega))
    | (apply es_callQ (hs := (hm.mono (by simp))); (iterate 7 exact rfl))
    | (apply es_build hT; (iterate 4 exact rfl))
    | (apply es_store hT; (iterate 6 exact rfl); (repeat (first | exact sel0 | apply selS | apply selApp)); (iterate 3 exact rfl); exact Nat.le_of_ble_eq_true rfl)
    | (apply es_load; (iterate 5 exact rfl); first | (apply ld_blk hT; exact rfl; exact rfl; (repeat (first | exact List.mem_cons_self | apply List.mem_cons_of_mem | apply List.mem_append_right)); exact rfl; exact rfl) | (apply ld_all hT; exact rfl; exact rfl; (repeat (first | exact List.mem_cons_self | apply List.mem_cons_of_mem | apply List.mem_append_right)); exact rfl))
    | (apply es_box; (iterate 5 exact rfl); intro _) | (apply es_alloc hT; (iterate 5 exact rfl); intro _)
    | (apply aw_condT; (iterate 2 exact rfl)) | (apply aw_condF; (iterate 2 exact rfl))
    | (apply es_case; exact rfl; all_goals intro hb; all_goals (fail_if_success (change true = true at hb)); all_goals (fail_if_success (change false = false at hb)); all_goals (try dsimp only at hb); all_goals (try simp only [hb]); all_goals (first | replace hb := of_decide_eq_true hb | replace hb := of_decide_eq_false hb | replace hb := bne_t hb | replace hb := bne_f hb | replace hb := eq_of_beq hb | replace hb := ne_of_beq_false hb | skip); all_goals (try (exfalso; omega)))
    | (apply aw_cond; exact rfl; all_goals intro hb; all_goals (try dsimp only at hb); all_goals (try simp only [hb]); all_goals (first | replace hb := of_decide_eq_true hb | replace hb := of_decide_eq_false hb | replace hb := bne_t hb | replace hb := bne_f hb | replace hb := eq_of_beq hb | replace hb := ne_of_beq_false hb | skip); all_goals (try (exfalso; omega))))
  all_goals first
    | (exfalso; omega)
    | (apply ret2c; exact rfl; exact ld_all hT rfl rfl mem0 rfl; exact rfl; exact ⟨rfl, dt_skip dt_end⟩)
end Go.Proofs.Ytjcnaeengplcbaa

set_option linter.unusedSimpArgs false
set_option linter.unusedVariables false
namespace Go.Proofs.Ytjcnaeengplcbaa
open Go Go.Sl
attribute [local irreducible] AW ES EP Ld RetQ
set_option maxRecDepth 100000

def okI (n : Int) : Value := .tuple #[.int .i64 (if inI n then n else 0), .bool (inI n)]
theorem fix_AddG (W : World) (a b : Int) (ha : inW a) (hb : inW b) : QSpec Try.prog W 15 [.int .i64 a, .int .i64 b] [] (okI (a + b)) := by
  unfold inW at *
  refine QSpec.ofD (fun h' hs => ?_)
  unfold okI
  cases hI : inI (a + b)
  · have hr := inI_f hI
    refine spec_body Try.func15 rfl rfl Try.results15 Try.ntmps15 rfl rfl ?_
    repeat' (first
      | apply aw_seq | apply aw_region | apply aw_ret | apply aw_skip | apply aw_exit | apply aw_block | apply es_nil
      | (apply es_pure hT; (iterate 4 exact rfl)) | (apply es_skip; (iterate 3 exact rfl)) | (apply es_skip0; (iterate 2 exact rfl))
      | (apply es_i64 hT; (iterate 4 exact rfl); (iterate 2 (first | omega | (dsimp only; omega))))
      | (apply aw_draw [] [] hmix; decide +kernel)
      | (apply es_load; (iterate 5 exact rfl); first | (apply ld_blk hT; exact rfl; exact rfl; (repeat (first | exact List.mem_cons_self | apply List.mem_cons_of_mem | apply List.mem_append_right)); exact rfl; exact rfl) | (apply ld_all hT; exact rfl; exact rfl; (repeat (first | exact List.mem_cons_self | apply List.mem_cons_of_mem | apply List.mem_append_right)); exact rfl))
      | (apply es_box; (iterate 5 exact rfl); intro _) | (apply es_alloc hT; (iterate 5 exact rfl); intro _)
      | (apply aw_condT; (iterate 2 exact rfl)) | (apply aw_condF; (iterate 2 exact rfl))
      | (apply es_case; exact rfl; all_goals intro hb; all_goals (fail_if_success (change true = true at hb)); all_goals (fail_if_success (change false = false at hb)); all_goals (try dsimp only at hb); all_goals (try simp only [hb]); all_goals (first | replace hb := of_decide_eq_true hb | replace hb := of_decide_eq_false hb | replace hb := bne_t hb | replace hb := bne_f hb | replace hb := eq_of_beq hb | replace hb := ne_of_beq_false hb | skip); all_goals (try (exfalso; omega)))
      | (apply aw_cond; exact rfl; all_goals intro hb; all_goals (try dsimp only at hb); all_goals (try simp only [hb]); all_goals (first | replace hb := of_decide_eq_true hb | replace hb := of_decide_eq_false hb | replace hb := bne_t hb | replace hb := bne_f hb | replace hb := eq_of_beq hb | replace hb := ne_of_beq_false hb | skip); all_goals (try (exfalso; omega))))
    all_goals first
      | (exfalso; omega)
      | (apply ret2; exact rfl; exact rfl; exact ⟨rfl, by (repeat (first | exact dt_end | (apply dt_cons; · (repeat (first | exact sel0 | apply selS | apply selApp))) | apply dt_skip | apply dt_both))⟩)
      | skip
  · have hr := inI_t hI
    refine spec_body Try.func15 rfl rfl Try.results15 Try.ntmps15 rfl rfl ?_
    repeat' (first
      | apply aw_seq | apply aw_region | apply aw_ret | apply aw_skip | apply aw_exit | apply aw_block | apply es_nil
      | (apply es_pure hT; (iterate 4 exact rfl)) | (apply es_skip; (iterate 3 exact rfl)) | (apply es_skip0; (iterate 2 exact rfl))
      | (apply es_i64 hT; (iterate 4 exact rfl); (iterate 2 (first | omega | (dsimp only; omega))))
      | (apply aw_draw [] [] hmix; decide +kernel)
      | (apply es_load; (iterate 5 exact rfl); first | (apply ld_blk hT; exact rfl; exact rfl; (repeat (first | exact List.mem_cons_self | apply List.mem_cons_of_mem | apply List.mem_append_right)); exact rfl; exact rfl) | (apply ld_all hT; exact rfl; exact rfl; (repeat (first | exact List.mem_cons_self | apply List.mem_cons_of_mem | apply List.mem_append_right)); exact rfl))
      | (apply es_box; (iterate 5 exact rfl); intro _) | (apply es_alloc hT; (iterate 5 exact rfl); intro _)
      | (apply aw_condT; (iterate 2 exact rfl)) | (apply aw_condF; (iterate 2 exact rfl))
      | (apply es_case; exact rfl; all_goals intro hb; all_goals (fail_if_success (change true = true at hb)); all_goals (fail_if_success (change false = false at hb)); all_goals (try dsimp only at hb); all_goals (try simp only [hb]); all_goals (first | replace hb := of_decide_eq_true hb | replace hb := of_decide_eq_false hb | replace hb := bne_t hb | replace hb := bne_f hb | replace hb := eq_of_beq hb | replace hb := ne_of_beq_false hb | skip); all_goals (try (exfalso; omega)))
      | (apply aw_cond; exact rfl; all_goals intro hb; all_goals (try dsimp only at hb); all_goals (try simp only [hb]); all_goals (first | replace hb := of_decide_eq_true hb | replace hb := of_decide_eq_false hb | replace hb := bne_t hb | replace hb := bne_f hb | replace hb := eq_of_beq hb | replace hb := ne_of_beq_false hb | skip); all_goals (try (exfalso; omega))))
    all_goals first
      | (exfalso; omega)
      | (apply ret2; exact rfl; exact rfl; exact ⟨rfl, by (repeat (first | exact dt_end | (apply dt_cons; · (repeat (first | exact sel0 | apply selS | apply selApp))) | apply dt_skip | apply dt_both))⟩)
      | skip
theorem fix_SubG (W : World) (a b : Int) (ha : inW a) (hb : inW b) : QSpec Try.prog W 66 [.int .i64 a, .int .i64 b] [] (okI (a - b)) := by
  unfold inW at *
  refine QSpec.ofD (fun h' hs => ?_)
  unfold okI
  cases hI : inI (a - b)
  · have hr := inI_f hI
    refine spec_body Try.func66 rfl rfl Try.results66 Try.ntmps66 rfl rfl ?_
    repeat' (first
      | apply aw_seq | apply aw_region | apply aw_ret | apply aw_skip | apply aw_exit | apply aw_block | apply es_nil
      | (apply es_pure hT; (iterate 4 exact rfl)) | (apply es_skip; (iterate 3 exact rfl)) | (apply es_skip0; (iterate 2 exact rfl))
      | (apply es_i64 hT; (iterate 4 exact rfl); (iterate 2 (first | omega | (dsimp only; omega))))
      | (apply aw_draw [] [] hmix; decide +kernel)
      | (apply es_load; (iterate 5 exact rfl); first | (apply ld_blk hT; exact rfl; exact rfl; (repeat (first | exact List.mem_cons_self | apply List.mem_cons_of_mem | apply List.mem_append_right)); exact rfl; exact rfl) | (apply ld_all hT; exact rfl; exact rfl; (repeat (first | exact List.mem_cons_self | apply List.mem_cons_of_mem | apply List.mem_append_right)); exact rfl))
      | (apply es_box; (iterate 5 exact rfl); intro _) | (apply es_alloc hT; (iterate 5 exact rfl); intro _)
      | (apply aw_condT; (iterate 2 exact rfl)) | (apply aw_condF; (iterate 2 exact rfl))
      | (apply es_case; exact rfl; all_goals intro hb; all_goals (fail_if_success (change true = true at hb)); all_goals (fail_if_success (change false = false at hb)); all_goals (try dsimp only at hb); all_goals (try simp only [hb]); all_goals (first | replace hb := of_decide_eq_true hb | replace hb := of_decide_eq_false hb | replace hb := bne_t hb | replace hb := bne_f hb | replace hb := eq_of_beq hb | replace hb := ne_of_beq_false hb | skip); all_goals (try (exfalso; omega)))
      | (apply aw_cond; exact rfl; all_goals intro hb; all_goals (try dsimp only at hb); all_goals (try simp only [hb]); all_goals (first | replace hb := of_decide_eq_true hb | replace hb := of_decide_eq_false hb | replace hb := bne_t hb | replace hb := bne_f hb | replace hb := eq_of_beq hb | replace hb := ne_of_beq_false hb | skip); all_goals (try (exfalso; omega))))
    all_goals first
      | (exfalso; omega)
      | (apply ret2; exact rfl; exact rfl; exact ⟨rfl, by (repeat (first | exact dt_end | (apply dt_cons; · (repeat (first | exact sel0 | apply selS | apply selApp))) | apply dt_skip | apply dt_both))⟩)
      | skip
  · have hr := inI_t hI
    refine spec_body Try.func66 rfl rfl Try.results66 Try.ntmps66 rfl rfl ?_
    repeat' (first
      | apply aw_seq | apply aw_region | apply aw_ret | apply aw_skip | apply aw_exit | apply aw_block | apply es_nil
      | (apply es_pure hT; (iterate 4 exact rfl)) | (apply es_skip; (iterate 3 exact rfl)) | (apply es_skip0; (iterate 2 exact rfl))
      | (apply es_i64 hT; (iterate 4 exact rfl); (iterate 2 (first | omega | (dsimp only; omega))))
      | (apply aw_draw [] [] hmix; decide +kernel)
      | (apply es_load; (iterate 5 exact rfl); first | (apply ld_blk hT; exact rfl; exact rfl; (repeat (first | exact List.mem_cons_self | apply List.mem_cons_of_mem | apply List.mem_append_right)); exact rfl; exact rfl) | (apply ld_all hT; exact rfl; exact rfl; (repeat (first | exact List.mem_cons_self | apply List.mem_cons_of_mem | apply List.mem_append_right)); exact rfl))
      | (apply es_box; (iterate 5 exact rfl); intro _) | (apply es_alloc hT; (iterate 5 exact rfl); intro _)
      | (apply aw_condT; (iterate 2 exact rfl)) | (apply aw_condF; (iterate 2 exact rfl))
      | (apply es_case; exact rfl; all_goals intro hb; all_goals (fail_if_success (change true = true at hb)); all_goals (fail_if_success (change false = false at hb)); all_goals (try dsimp only at hb); all_goals (try simp only [hb]); all_goals (first | replace hb := of_decide_eq_true hb | replace hb := of_decide_eq_false hb | replace hb := bne_t hb | replace hb := bne_f hb | replace hb := eq_of_beq hb | replace hb := ne_of_beq_false hb | skip); all_goals (try (exfalso; omega)))
      | (apply aw_cond; exact rfl; all_goals intro hb; all_goals (try dsimp only at hb); all_goals (try simp only [hb]); all_goals (first | replace hb := of_decide_eq_true hb | replace hb := of_decide_eq_false hb | replace hb := bne_t hb | replace hb := bne_f hb | replace hb := eq_of_beq hb | replace hb := ne_of_beq_false hb | skip); all_goals (try (exfalso; omega))))
    all_goals first
      | (exfalso; omega)
      | (apply ret2; exact rfl; exact rfl; exact ⟨rfl, by (repeat (first | exact dt_end | (apply dt_cons; · (repeat (first | exact sel0 | apply selS | apply selApp))) | apply dt_skip | apply dt_both))⟩)
      | skip
theorem fix_Narrow (W : World) (n : Nat) (hn : n < 340282366920938463463374607431768211456) : QSpec Try.prog W 65 [.agg (wideE n).toArray] [] (okI n) := by
  refine QSpec.ofD (fun h' hs => ?_)
  unfold okI
  cases hI : inI (n : Int)
  · have hr := inI_f hI
    refine spec_body Try.func65 rfl rfl Try.results65 Try.ntmps65 rfl rfl ?_
    repeat' (first
      | apply aw_seq | apply aw_region | apply aw_ret | apply aw_skip | apply aw_exit | apply aw_block | apply es_nil
      | (apply es_pure hT; (iterate 4 exact rfl)) | (apply es_skip; (iterate 3 exact rfl)) | (apply es_skip0; (iterate 2 exact rfl))
      | (apply es_i64 hT; (iterate 4 exact rfl); (iterate 2 (first | omega | (dsimp only; omega))))
      | (apply aw_draw [] [] hmix; decide +kernel)
      | (apply es_load; (iterate 5 exact rfl); first | (apply ld_blk hT; exact rfl; exact rfl; (repeat (first | exact List.mem_cons_self | apply List.mem_cons_of_mem | apply List.mem_append_right)); exact rfl; exact rfl) | (apply ld_all hT; exact rfl; exact rfl; (repeat (first | exact List.mem_cons_self | apply List.mem_cons_of_mem | apply List.mem_append_right)); exact rfl))
      | (apply es_box; (iterate 5 exact rfl); intro _) | (apply es_alloc hT; (iterate 5 exact rfl); intro _)
      | (apply aw_condT; (iterate 2 exact rfl)) | (apply aw_condF; (iterate 2 exact rfl))
      | (apply es_case; exact rfl; all_goals intro hb; all_goals (fail_if_success (change true = true at hb)); all_goals (fail_if_success (change false = false at hb)); all_goals (try dsimp only at hb); all_goals (try simp only [hb]); all_goals (first | replace hb := of_decide_eq_true hb | replace hb := of_decide_eq_false hb | replace hb := bne_t hb | replace hb := bne_f hb | replace hb := eq_of_beq hb | replace hb := ne_of_beq_false hb | skip); all_goals (try (exfalso; omega)))
      | (apply aw_cond; exact rfl; all_goals intro hb; all_goals (try dsimp only at hb); all_goals (try simp only [hb]); all_goals (first | replace hb := of_decide_eq_true hb | replace hb := of_decide_eq_false hb | replace hb := bne_t hb | replace hb := bne_f hb | replace hb := eq_of_beq hb | replace hb := ne_of_beq_false hb | skip); all_goals (try (exfalso; omega))))
    all_goals first
      | (exfalso; omega)
      | (apply ret2; exact rfl; exact rfl; exact ⟨rfl, by (repeat (first | exact dt_end | (apply dt_cons; · (repeat (first | exact sel0 | apply selS | apply selApp))) | apply dt_skip | apply dt_both))⟩)
      | skip
  · have hr := inI_t hI
    refine spec_body Try.func65 rfl rfl Try.results65 Try.ntmps65 rfl rfl ?_
    repeat' (first
      | apply aw_seq | apply aw_region | apply aw_ret | apply aw_skip | apply aw_exit | apply aw_block | apply es_nil
      | (apply es_pure hT; (iterate 4 exact rfl)) | (apply es_skip; (iterate 3 exact rfl)) | (apply es_skip0; (iterate 2 exact rfl))
      | (apply es_i64 hT; (iterate 4 exact rfl); (iterate 2 (first | omega | (dsimp only; omega))))
      | (apply aw_draw [] [] hmix; decide +kernel)
      | (apply es_load; (iterate 5 exact rfl); first | (apply ld_blk hT; exact rfl; exact rfl; (repeat (first | exact List.mem_cons_self | apply List.mem_cons_of_mem | apply List.mem_append_right)); exact rfl; exact rfl) | (apply ld_all hT; exact rfl; exact rfl; (repeat (first | exact List.mem_cons_self | apply List.mem_cons_of_mem | apply List.mem_append_right)); exact rfl))
      | (apply es_box; (iterate 5 exact rfl); intro _) | (apply es_alloc hT; (iterate 5 exact rfl); intro _)
      | (apply aw_condT; (iterate 2 exact rfl)) | (apply aw_condF; (iterate 2 exact rfl))
      | (apply es_case; exact rfl; all_goals intro hb; all_goals (fail_if_success (change true = true at hb)); all_goals (fail_if_success (change false = false at hb)); all_goals (try dsimp only at hb); all_goals (try simp only [hb]); all_goals (first | replace hb := of_decide_eq_true hb | replace hb := of_decide_eq_false hb | replace hb := bne_t hb | replace hb := bne_f hb | replace hb := eq_of_beq hb | replace hb := ne_of_beq_false hb | skip); all_goals (try (exfalso; omega)))
      | (apply aw_cond; exact rfl; all_goals intro hb; all_goals (try dsimp only at hb); all_goals (try simp only [hb]); all_goals (first | replace hb := of_decide_eq_true hb | replace hb := of_decide_eq_false hb | replace hb := bne_t hb | replace hb := bne_f hb | replace hb := eq_of_beq hb | replace hb := ne_of_beq_false hb | skip); all_goals (try (exfalso; omega))))
    all_goals first
      | (exfalso; omega)
      | (apply ret2; exact rfl; exact rfl; exact ⟨by simp [Nat.mod_eq_of_lt (show n < 18446744073709551616 by omega)], by (repeat (first | exact dt_end | (apply dt_cons; · (repeat (first | exact sel0 | apply selS | apply selApp))) | apply dt_skip | apply dt_both))⟩)
      | skip
end Go.Proofs.Ytjcnaeengplcbaa

set_option linter.unusedSimpArgs false
set_option linter.unusedVariables false
namespace Go.Sl
open Go Go.RowKit
variable {P : Program} {W : World} {h h' F : List Chunk}

theorem Reads.enc {α : Type} {enc : α → List Value} {k : Nat} (hk : ∀ x, (enc x).length = k) (h1 : ∀ x, ∀ v ∈ enc x, v.oneCell' = true) {A : Option Addr} {n c : Nat} {t : TypeId} {l : List α} (hm : Chunk.own A n c t k (l.flatMap enc) ∈ h) (hn : l.length = n) : Reads W h A n k (l.flatMap enc) :=
  Reads.own hm (by rw [flat_len hk, hn]) (fun v hv => by
    obtain ⟨y, _, hy⟩ := List.mem_flatMap.1 hv
    exact h1 y v hy)
theorem Reads.ints {A : Option Addr} {n c : Nat} {t : TypeId} {kd : IntKind} {l : List Int} (hm : Chunk.own A n c t 1 (l.map (Value.int kd)) ∈ h) (hn : l.length = n) : Reads W h A n 1 (l.map (Value.int kd)) :=
  Reads.own hm (by simp [hn]) (fun v hv => by
    obtain ⟨y, _, rfl⟩ := List.mem_map.1 hv
    rfl)
theorem mem1P {x : Chunk} (hx : x ∈ h) : ∀ c ∈ [x], c ∈ h := fun c hc => by
  rw [List.mem_singleton.1 hc]; exact hx
theorem mem2P {x y : Chunk} (hx : x ∈ h) (hy : y ∈ h) : ∀ c ∈ [x, y], c ∈ h := fun c hc => by
  rcases List.mem_cons.1 hc with rfl | hc
  · exact hx
  · exact mem1P hy c hc
theorem mem3P {x y z : Chunk} (hx : x ∈ h) (hy : y ∈ h) (hz : z ∈ h) : ∀ c ∈ [x, y, z], c ∈ h := fun c hc => by
  rcases List.mem_cons.1 hc with rfl | hc
  · exact hx
  · exact mem2P hy hz c hc
/-- a value of a row of single numbers -/
theorem intAt {kd : IntKind} {l : List Int} {i : Nat} {n : Int} (h : l[i]? = some n) : (l.map (Value.int kd))[i * 1]? = some (.int kd n) := by simp [h]
theorem lay_set1 {cs : List Value} {i : Nat} {v : Value} (h : i < cs.length) : lay cs (i * 1) [v] = cs.set i v := by
  rw [Nat.mul_one]; exact lay_one (by omega)
end Go.Sl

set_option linter.unusedSimpArgs false
set_option linter.unusedVariables false
namespace Go.Proofs.Ytjcnaeengplcbaa
open Go Go.Sl
attribute [local irreducible] AW ES EP Ld RetQ
set_option maxRecDepth 100000

def psOf (cash : List Int) (rs : List PRow) : Ps := ⟨cash, rs.map PRow.l⟩
theorem isPosR_eq {cash : List Int} {rs : List PRow} (who bond : Int) : isPosR cash rs who bond = isPos (psOf cash rs) who bond := by
  unfold isPosR isPos psOf at0
  by_cases h : 0 ≤ who
  · rw [if_neg (by omega)]
    simp only [List.getElem?_map]
    rcases rs[who.toNat]? with _ | r <;> simp
  · rw [decide_eq_false h]; simp
theorem cashR_eq {cash : List Int} {rs : List PRow} (who : Int) : cashR cash who = cashOf (psOf cash rs) who := by
  unfold cashR cashOf psOf at0
  dsimp only
  split <;> rfl
theorem headsReads {W : World} {h : List Chunk} {AR : Option Addr} {cR : Nat} {t : TypeId} {rs : List PRow} (hm : Chunk.own AR rs.length cR t 1 (rs.map PRow.hd) ∈ h) : Reads W h AR rs.length 1 (rs.map PRow.hd) := Reads.own hm (by simp) (fun v hv => by
  obtain ⟨y, _, rfl⟩ := List.mem_map.1 hv
  rfl)
theorem head_at {rs : List PRow} {i : Nat} {a : PRow} (h : rs[i]? = some a) : (rs.map PRow.hd)[i * 1]? = some (.slice a.A a.l.length a.c) := by simp [h]; rfl
theorem row_ck {rs : List PRow} {a : PRow} (h : a ∈ rs) {F : List Chunk} : Chunk.own a.A a.l.length a.c 2 1 (a.l.map (Value.int .i64)) ∈ rs.map PRow.ck ++ F := List.mem_append_left _ (List.mem_map.2 ⟨a, h, rfl⟩)
structure RowAt (rs : List PRow) (nb : Nat) (i : Int) (a : PRow) : Prop where
  at_ : rs[i.toNat]? = some a
  len : a.l.length = nb
  wr : ∀ n ∈ a.l, inW n
theorem row_at {np nb : Nat} {cash : List Int} {rs : List PRow} (h : PsOK np nb (psOf cash rs)) {i : Int} (h0 : 0 ≤ i) (h1 : i < np) : ∃ a, RowAt rs nb i a := by
  have hl : rs.length = np := by have := h.np; simpa [psOf] using this
  have ha : rs[i.toNat]? = some (rs[i.toNat]'(by omega)) := List.getElem?_eq_getElem (by omega)
  have hm : (rs[i.toNat]'(by omega)).l ∈ (psOf cash rs).pos := List.mem_map.2 ⟨_, List.getElem_mem (by omega), rfl⟩
  exact ⟨_, ha, h.row _ hm, h.wr _ hm⟩
theorem posOf_at {cash : List Int} {rs : List PRow} {i bond : Int} {a : PRow} (h0 : 0 ≤ i) (ha : rs[i.toNat]? = some a) (hb : 0 ≤ bond) {n : Int} (hn : a.l[bond.toNat]? = some n) : posOf (psOf cash rs) i bond = n := by
  unfold posOf psOf at0
  rw [if_neg (by omega)]
  simp only [List.getElem?_map, ha, Option.map_some, Option.bind_some]
  rw [if_neg (by omega), hn]; rfl
theorem cashOf_at {cash : List Int} {rs : List PRow} {i n : Int} (h0 : 0 ≤ i) (hn : cash[i.toNat]? = some n) : cashOf (psOf cash rs) i = n := by
  unfold cashOf psOf at0
  rw [if_neg (by omega)]
  dsimp only
  rw [hn]; rfl
theorem pos_Bonds (W : World) (p : Nat) (AC : Option Addr) (cC : Nat) (AR : Option Addr) (cR : Nat) (cash : List Int) (rs : List PRow) (np nb : Nat) (hP : PsOK np nb (psOf cash rs)) (who bond : Int) :
    QSpec Try.prog W 51 [.pointer (some ⟨p, 0, none⟩), .int .i64 who, .int .i64 bond] (posTab p AC cC AR cR cash rs []) (.int .i64 (posOf (psOf cash rs) who bond)) := by
  refine QSpec.ofD (fun h' hs => ?_)
  have m0 := hs _ mem0
  have m1 := hs _ mem2
  have hck := fun (a : PRow) (ha : a ∈ rs) => hs _ (List.mem_cons_of_mem _ (List.mem_cons_of_mem _ (List.mem_cons_of_mem _ (row_ck ha))))
  have hlc : rs.length = cash.length := by have a1 := hP.nc; have a2 := hP.np; simp [psOf] at a1 a2; omega
  have hI := (pos_is W p AC cC AR cR cash rs hlc who bond).mono (h' := h') (memPairP m0 m1)
  rw [isPosR_eq] at hI
  have hrd := headsReads (W := W) m1
  refine spec_body Try.func51 rfl rfl Try.results51 Try.ntmps51 rfl rfl ?_
  refine aw_reads hrd rfl (fun hA => ?_)
  cases hv : isPos (psOf cash rs) who bond
  · rw [hv] at hI
    have hz : posOf (psOf cash rs) who bond = 0 := by
      unfold posOf
      rcases hx : at0 (psOf cash rs).pos who with _ | r
      · rfl
      · rw [Option.bind_some]
        rcases hy : at0 r bond with _ | n
        · rfl
        · exfalso
          have h1 := at0_le hx
          have h2 := at0_le hy
          have h3 := hP.row _ (at0M hx)
          have h4 := hP.np
          have : isPos (psOf cash rs) who bond = true := (isPos_iff hP).2 ⟨by omega, by omega⟩
          rw [hv] at this; cases this
    rw [hz]
    repeat' (first
      | apply aw_seq | apply aw_region | apply aw_ret | apply aw_skip | apply aw_exit | apply aw_block | apply es_nil
      | (apply es_pure hT; (iterate 4 exact rfl)) | (apply es_skip; (iterate 3 exact rfl)) | (apply es_skip0; (iterate 2 exact rfl))
      | (apply es_i64 hT; (iterate 4 exact rfl); (iterate 2 (first | omega | (dsimp only; omega))))
      | (apply aw_draw [] [] hmix; decide +kernel)
      | (apply es_callQ (hs := (hI.mono (by (intro c hc; (repeat (first | exact hc | apply List.mem_cons_of_mem | apply List.mem_append_right)))))); (iterate 7 exact rfl))
      | (apply es_load; (iterate 5 exact rfl); first | (apply ld_blk hT; exact rfl; exact rfl; (repeat (first | exact List.mem_cons_self | exact m0 | apply List.mem_cons_of_mem | apply List.mem_append_right)); exact rfl; exact rfl) | (apply ld_all hT; exact rfl; exact rfl; (repeat (first | exact List.mem_cons_self | exact m0 | apply List.mem_cons_of_mem | apply List.mem_append_right)); exact rfl))
      | (apply es_box; (iterate 5 exact rfl); intro _) | (apply es_alloc hT; (iterate 5 exact rfl); intro _)
      | (apply aw_condT; (iterate 2 exact rfl)) | (apply aw_condF; (iterate 2 exact rfl))
      | (apply es_case; exact rfl; all_goals intro hb; all_goals (fail_if_success (change true = true at hb)); all_goals (fail_if_success (change false = false at hb)); all_goals (try dsimp only at hb); all_goals (try simp only [hb]); all_goals (first | replace hb := of_decide_eq_true hb | replace hb := of_decide_eq_false hb | replace hb := bne_t hb | replace hb := bne_f hb | replace hb := eq_of_beq hb | replace hb := ne_of_beq_false hb | skip); all_goals (try (exfalso; omega)))
      | (apply aw_cond; exact rfl; all_goals intro hb; all_goals (try dsimp only at hb); all_goals (try simp only [hb]); all_goals (first | replace hb := of_decide_eq_true hb | replace hb := of_decide_eq_false hb | replace hb := bne_t hb | replace hb := bne_f hb | replace hb := eq_of_beq hb | replace hb := ne_of_beq_false hb | skip); all_goals (try (exfalso; omega))))
    all_goals first
      | (exfalso; omega)
      | (apply ret1; exact rfl; exact ⟨rfl, by (repeat (first | exact dt_end | (apply dt_cons; · (repeat (first | exact sel0 | apply selS | apply selApp))) | apply dt_skip | apply dt_both))⟩)
      | skip
  · obtain ⟨⟨w1, w2⟩, b1, b2⟩ := (isPos_iff hP).1 hv
    rw [hv] at hI
    obtain ⟨a, ha⟩ := row_at hP w1 w2
    have hal := ha.len
    obtain ⟨n, hn⟩ : ∃ n, a.l[bond.toNat]? = some n := ⟨a.l[bond.toNat]'(by omega), List.getElem?_eq_getElem (by omega)⟩
    rw [posOf_at w1 ha.at_ b1 hn]
    have hnp := hP.np
    simp only [psOf, List.length_map] at hnp
    have hA' := hA (by omega)
    have hrda : Reads W h' a.A a.l.length 1 (a.l.map (Value.int .i64)) := Reads.ints (hck a (List.mem_of_getElem? ha.at_)) rfl
    refine aw_reads hrda rfl (fun hB => ?_)
    have hB' := hB (by omega)
    have hix := head_at ha.at_
    have hiy := intAt (kd := .i64) hn
    repeat' (first
      | apply aw_seq | apply aw_region | apply aw_ret | apply aw_skip | apply aw_exit | apply aw_block | apply es_nil
      | (apply es_pure hT; (iterate 4 exact rfl)) | (apply es_skip; (iterate 3 exact rfl)) | (apply es_skip0; (iterate 2 exact rfl))
      | (apply es_i64 hT; (iterate 4 exact rfl); (iterate 2 (first | omega | (dsimp only; omega))))
      | (apply aw_draw [] [] hmix; decide +kernel)
      | (apply es_callQ (hs := (hI.mono (by (intro c hc; (repeat (first | exact hc | apply List.mem_cons_of_mem | apply List.mem_append_right)))))); (iterate 7 exact rfl))
      | (apply es_idx hT; (iterate 8 exact rfl); (iterate 2 omega); first | exact hA' | exact hB')
      | (apply es_load; (iterate 5 exact rfl); first | exact ld_row hT rfl rfl hrd rfl hix | exact ld_row hT rfl rfl hrda rfl hiy)
      | (apply es_load; (iterate 5 exact rfl); first | (apply ld_blk hT; exact rfl; exact rfl; (repeat (first | exact List.mem_cons_self | exact m0 | apply List.mem_cons_of_mem | apply List.mem_append_right)); exact rfl; exact rfl) | (apply ld_all hT; exact rfl; exact rfl; (repeat (first | exact List.mem_cons_self | exact m0 | apply List.mem_cons_of_mem | apply List.mem_append_right)); exact rfl))
      | (apply es_box; (iterate 5 exact rfl); intro _) | (apply es_alloc hT; (iterate 5 exact rfl); intro _)
      | (apply aw_condT; (iterate 2 exact rfl)) | (apply aw_condF; (iterate 2 exact rfl))
      | (apply es_case; exact rfl; all_goals intro hb; all_goals (fail_if_success (change true = true at hb)); all_goals (fail_if_success (change false = false at hb)); all_goals (try dsimp only at hb); all_goals (try simp only [hb]); all_goals (first | replace hb := of_decide_eq_true hb | replace hb := of_decide_eq_false hb | replace hb := bne_t hb | replace hb := bne_f hb | replace hb := eq_of_beq hb | replace hb := ne_of_beq_false hb | skip); all_goals (try (exfalso; omega)))
      | (apply aw_cond; exact rfl; all_goals intro hb; all_goals (try dsimp only at hb); all_goals (try simp only [hb]); all_goals (first | replace hb := of_decide_eq_true hb | replace hb := of_decide_eq_false hb | replace hb := bne_t hb | replace hb := bne_f hb | replace hb := eq_of_beq hb | replace hb := ne_of_beq_false hb | skip); all_goals (try (exfalso; omega))))
    all_goals first
      | (exfalso; omega)
      | (apply ret1; exact rfl; exact ⟨rfl, by (repeat (first | exact dt_end | (apply dt_cons; · (repeat (first | exact sel0 | apply selS | apply selApp))) | apply dt_skip | apply dt_both))⟩)
      | skip
theorem pos_PutBad (W : World) (F : List Chunk) (p : Nat) (AC : Option Addr) (cC : Nat) (AR : Option Addr) (cR : Nat) (cash : List Int) (rs : List PRow) (np nb : Nat) (hP : PsOK np nb (psOf cash rs)) (t : TradeR)
    (hbad : isPos (psOf cash rs) t.buyer t.bond = false ∨ isPos (psOf cash rs) t.seller t.bond = false ∨ t.buyer = t.seller ∨ t.price < 1 ∨ t.qty < 1) :
    FSpec Try.prog W 49 [.pointer (some ⟨p, 0, none⟩), .agg t.enc.toArray] (posTab p AC cC AR cR cash rs F) (fun v h' => v = .int .i64 1 ∧ h' = posTab p AC cC AR cR cash rs F) := by
  refine FSpec.dropTo ?_
  have hnc := hP.nc
  have hnp := hP.np
  simp only [psOf, List.length_map] at hnc hnp
  have hlc : rs.length = cash.length := by omega
  have hI := fun who bond h' m0 m1 => (pos_is W p AC cC AR cR cash rs hlc who bond).mono (h' := h') (memPairP m0 m1)
  simp only [isPosR_eq] at hI
  unfold posTab
  have h1 := hI t.buyer t.bond
  have h2 := hI t.seller t.bond
  generalize isPos (psOf cash rs) t.buyer t.bond = b1 at *
  generalize isPos (psOf cash rs) t.seller t.bond = b2 at *
  generalize rs.map PRow.ck ++ F = G
  refine spec_body Try.func49 rfl rfl Try.results49 Try.ntmps49 rfl rfl ?_
  repeat' (first
    | apply aw_seq | apply aw_region | apply aw_ret | apply aw_skip | apply aw_exit | apply aw_block | apply es_nil
    | (apply es_pure hT; (iterate 4 exact rfl)) | (apply es_skip; (iterate 3 exact rfl)) | (apply es_skip0; (iterate 2 exact rfl))
    | (apply es_i64 hT; (iterate 4 exact rfl); (iterate 2 (first | omega | (dsimp only; omega))))
    | (apply aw_draw [] [] hmix; decide +kernel)
    | (apply es_box; (iterate 5 exact rfl); intro g3)
    | (apply es_callQ (hs := (h1 _ (by (repeat (first | exact List.mem_cons_self | apply List.mem_cons_of_mem | apply List.mem_append_right))) (by (repeat (first | exact List.mem_cons_self | apply List.mem_cons_of_mem | apply List.mem_append_right))))); (iterate 7 exact rfl))
    | (apply es_callQ (hs := (h2 _ (by (repeat (first | exact List.mem_cons_self | apply List.mem_cons_of_mem | apply List.mem_append_right))) (by (repeat (first | exact List.mem_cons_self | apply List.mem_cons_of_mem | apply List.mem_append_right))))); (iterate 7 exact rfl))
    | (apply es_load; (iterate 5 exact rfl); first | (apply ld_blk hT; exact rfl; exact rfl; (repeat (first | exact List.mem_cons_self | apply List.mem_cons_of_mem | apply List.mem_append_right)); exact rfl; exact rfl) | (apply ld_all hT; exact rfl; exact rfl; (repeat (first | exact List.mem_cons_self | apply List.mem_cons_of_mem | apply List.mem_append_right)); exact rfl))
    | (apply es_box; (iterate 5 exact rfl); intro _) | (apply es_alloc hT; (iterate 5 exact rfl); intro _)
    | (apply aw_condT; (iterate 2 exact rfl)) | (apply aw_condF; (iterate 2 exact rfl))
    | (apply es_case; exact rfl; all_goals intro hb; all_goals (fail_if_success (change true = true at hb)); all_goals (fail_if_success (change false = false at hb)); all_goals (try dsimp only at hb); all_goals (try simp only [hb]); all_goals (first | replace hb := of_decide_eq_true hb | replace hb := of_decide_eq_false hb | replace hb := bne_t hb | replace hb := bne_f hb | replace hb := eq_of_beq hb | replace hb := ne_of_beq_false hb | skip); all_goals (try (exfalso; omega)))
    | (apply aw_cond; exact rfl; all_goals intro hb; all_goals (try dsimp only at hb); all_goals (try simp only [hb]); all_goals (first | replace hb := of_decide_eq_true hb | replace hb := of_decide_eq_false hb | replace hb := bne_t hb | replace hb := bne_f hb | replace hb := eq_of_beq hb | replace hb := ne_of_beq_false hb | skip); all_goals (try (exfalso; omega))))
  all_goals first
    | (exfalso; omega)
    | (exfalso; simp_all; done)
    | (apply ret1; exact rfl; exact ⟨_, by (show DropTo _ (_ :: _ :: _ :: G)); (repeat (first | exact dt_end | (apply dt_cons; · (repeat (first | exact sel0 | apply selS | apply selApp))) | apply dt_skip | apply dt_both)), rfl, rfl⟩)
    | skip
theorem okI_is (x : Int) : ∃ y f, okI x = .tuple #[.int .i64 y, .bool f] ∧ inW y ∧ inI x = f ∧ (f = true → y = x) := by
  refine ⟨if inI x then x else 0, inI x, rfl, ?_, rfl, fun h => by rw [if_pos h]⟩
  split
  · rename_i h; exact inI_t h
  · unfold inW; omega
theorem lay_int {l : List Int} {i : Nat} {n : Int} {k : IntKind} (h : i < l.length) : lay (l.map (Value.int k)) (i * 1) (Value.cells (.int k n)).toList = (l.set i n).map (Value.int k) := by
  show lay _ _ [.int k n] = _
  rw [lay_set1 (by simpa using h), List.map_set]
theorem setRow_at {l : List (List Int)} {who bond n : Int} {r : List Int} (h : at0 l who = some r) : setRow l who bond n = l.set who.toNat (r.set bond.toNat n) := by
  unfold setRow
  rw [h]; rfl
set_option maxHeartbeats 4000000 in
theorem pos_PutOk (W : World) (F : List Chunk) (p : Nat) (AC : Option Addr) (cC : Nat) (AR : Option Addr) (cR : Nat) (cash : List Int) (rs : List PRow) (np nb : Nat) (hP : PsOK np nb (psOf cash rs)) (t : TradeR) (hpr : inW t.price) (hqt : inW t.qty)
    (hbad : ¬ (isPos (psOf cash rs) t.buyer t.bond = false ∨ isPos (psOf cash rs) t.seller t.bond = false ∨ t.buyer = t.seller ∨ t.price < 1 ∨ t.qty < 1)) :
    FSpec Try.prog W 49 [.pointer (some ⟨p, 0, none⟩), .agg t.enc.toArray] (posTab p AC cC AR cR cash rs F) (fun v h' => v = .int .i64 (putE (psOf cash rs) t) ∧ ∃ cash' rs', psOf cash' rs' = putP (psOf cash rs) t ∧ h' = posTab p AC cC AR cR cash' rs' F) := by
  refine FSpec.dropTo ?_
  have hnc := hP.nc
  have hnp := hP.np
  simp only [psOf, List.length_map] at hnc hnp
  have hlc : rs.length = cash.length := by omega
  have hI := fun who bond h' m0 m1 => (pos_is W p AC cC AR cR cash rs hlc who bond).mono (h' := h') (memPairP m0 m1)
  simp only [isPosR_eq] at hI
  have h1 := hI t.buyer t.bond
  have h2 := hI t.seller t.bond
  have hbad' := hbad
  simp only [not_or, Bool.not_eq_false] at hbad'
  obtain ⟨hb1, hb2, hne, hp1, hq1⟩ := hbad'
  rw [hb1] at h1
  rw [hb2] at h2
  obtain ⟨⟨x1, x2⟩, x3, x4⟩ := (isPos_iff hP).1 hb1
  obtain ⟨⟨y1, y2⟩, _, _⟩ := (isPos_iff hP).1 hb2
  obtain ⟨a, ha⟩ := row_at hP x1 x2
  obtain ⟨b, hb⟩ := row_at hP y1 y2
  have hal := ha.len
  have hbl := hb.len
  obtain ⟨nB, hnB⟩ : ∃ n, a.l[t.bond.toNat]? = some n := ⟨a.l[t.bond.toNat]'(by omega), List.getElem?_eq_getElem (by omega)⟩
  obtain ⟨nS, hnS⟩ : ∃ n, b.l[t.bond.toNat]? = some n := ⟨b.l[t.bond.toNat]'(by omega), List.getElem?_eq_getElem (by omega)⟩
  obtain ⟨cB, hcB⟩ : ∃ n, cash[t.buyer.toNat]? = some n := ⟨cash[t.buyer.toNat]'(by omega), List.getElem?_eq_getElem (by omega)⟩
  obtain ⟨cS, hcS⟩ : ∃ n, cash[t.seller.toNat]? = some n := ⟨cash[t.seller.toNat]'(by omega), List.getElem?_eq_getElem (by omega)⟩
  have wnB := ha.wr _ (List.mem_of_getElem? hnB)
  have wnS := hb.wr _ (List.mem_of_getElem? hnS)
  have wcB := hP.wc _ (List.mem_of_getElem? hcB)
  have wcS := hP.wc _ (List.mem_of_getElem? hcS)
  obtain ⟨X, hX⟩ := Int.eq_ofNat_of_zero_le (show 0 ≤ t.price by omega)
  obtain ⟨Q, hQ⟩ := Int.eq_ofNat_of_zero_le (show 0 ≤ t.qty by omega)
  unfold inW at hpr hqt
  have hTm := fix_Times W X Q (by omega) (by omega)
  rw [← hX, ← hQ] at hTm
  have hXQ : X * Q < 340282366920938463463374607431768211456 := by
    have : X * Q ≤ 9223372036854775807 * 9223372036854775807 := Nat.mul_le_mul (by omega) (by omega)
    omega
  have hNr := fix_Narrow W (X * Q) hXQ
  have hcost : t.price * t.qty = ((X * Q : Nat) : Int) := by rw [hX, hQ]; simp
  obtain ⟨v1, f1, e1, w1, g1, k1⟩ := okI_is ((X * Q : Nat) : Int)
  rw [e1] at hNr
  have hA2 := fix_AddG W nB t.qty wnB (by unfold inW; omega)
  obtain ⟨v2, f2, e2, w2, g2, k2⟩ := okI_is (nB + t.qty)
  rw [e2] at hA2
  have hA3 := fix_SubG W nS t.qty wnS (by unfold inW; omega)
  obtain ⟨v3, f3, e3, w3, g3', k3⟩ := okI_is (nS - t.qty)
  rw [e3] at hA3
  have hA4 := fix_SubG W cB v1 wcB w1
  obtain ⟨v4, f4, e4, w4, g4', k4⟩ := okI_is (cB - v1)
  rw [e4] at hA4
  have hA5 := fix_AddG W cS v1 wcS w1
  obtain ⟨v5, f5, e5, w5, g5', k5⟩ := okI_is (cS + v1)
  rw [e5] at hA5
  have hE : putE (psOf cash rs) t = if f1 && f2 && f3 && f4 && f5 then 0 else 15 := by
    unfold putE
    rw [if_neg hbad, posOf_at x1 ha.at_ x3 hnB, posOf_at y1 hb.at_ x3 hnS, cashOf_at x1 hcB, cashOf_at y1 hcS, hcost, g1, g2, g3']
    cases f1
    · simp
    · rw [← k1 rfl, g4', g5']
  have hEok : (f1 && f2 && f3 && f4 && f5) = true → (putP (psOf cash rs) t) = ⟨(cash.set t.buyer.toNat v4).set t.seller.toNat v5, setRow (setRow (rs.map PRow.l) t.buyer t.bond v2) t.seller t.bond v3⟩ := fun hf => by
    rw [hf, if_pos rfl] at hE
    simp only [Bool.and_eq_true] at hf
    obtain ⟨⟨⟨⟨z1, z2⟩, z3⟩, z4⟩, z5⟩ := hf
    unfold putP
    rw [if_pos hE, posOf_at x1 ha.at_ x3 hnB, posOf_at y1 hb.at_ x3 hnS, cashOf_at x1 hcB, cashOf_at y1 hcS, hcost, k2 z2, k3 z3, k4 z4, k5 z5, k1 z1]
    rfl
  rw [hE]
  obtain ⟨R, hR⟩ := set2_perm (l := rs) (i := t.buyer.toNat) (j := t.seller.toNat) (by omega) (by omega) (by omega)
  have hR0 := hR a b
  rw [set_self ha.at_, set_self hb.at_] at hR0
  have hpull : (posTab p AC cC AR cR cash rs F).Perm (.blk p 121 [.slice AR rs.length cR, .slice AC cash.length cC] :: .own AC cash.length cC 2 1 (cash.map (Value.int .i64)) :: .own AR rs.length cR 108 1 (rs.map PRow.hd)
      :: .own a.A a.l.length a.c 2 1 (a.l.map (Value.int .i64)) :: .own b.A b.l.length b.c 2 1 (b.l.map (Value.int .i64)) :: (R.map PRow.ck ++ F)) := by
    unfold posTab
    refine ((List.Perm.append_right F (hR0.map PRow.ck)).cons _ |>.cons _ |>.cons _)
  have hixa := head_at ha.at_
  have hixb := head_at hb.at_
  have hiB := intAt (kd := .i64) hnB
  have hiS := intAt (kd := .i64) hnS
  have hjB := intAt (kd := .i64) hcB
  have hjS := intAt (kd := .i64) hcS
  generalize hG : R.map PRow.ck ++ F = G at hpull
  have hEno : (f1 && f2 && f3 && f4 && f5) = false → putP (psOf cash rs) t = psOf cash rs := fun hf => by
    rw [hf] at hE
    unfold putP
    rw [if_neg (by rw [hE]; decide)]
  have hdrop : ∀ k, DropTo k (.blk p 121 [.slice AR rs.length cR, .slice AC cash.length cC] :: .own AC cash.length cC 2 1 (cash.map (Value.int .i64)) :: .own AR rs.length cR 108 1 (rs.map PRow.hd)
      :: .own a.A a.l.length a.c 2 1 (a.l.map (Value.int .i64)) :: .own b.A b.l.length b.c 2 1 (b.l.map (Value.int .i64)) :: G) → DropTo k (posTab p AC cC AR cR cash rs F) := fun k hk => dt_trans hk (dt_perm hpull.symm)
  have hfin : ∀ k, DropTo k (.blk p 121 [.slice AR rs.length cR, .slice AC cash.length cC] :: .own AC cash.length cC 2 1 (lay (lay (cash.map (Value.int .i64)) (t.buyer.toNat * 1) (Value.cells (.int .i64 v4)).toList) (t.seller.toNat * 1) (Value.cells (.int .i64 v5)).toList) :: .own AR rs.length cR 108 1 (rs.map PRow.hd)
      :: .own a.A a.l.length a.c 2 1 (lay (a.l.map (Value.int .i64)) (t.bond.toNat * 1) (Value.cells (.int .i64 v2)).toList) :: .own b.A b.l.length b.c 2 1 (lay (b.l.map (Value.int .i64)) (t.bond.toNat * 1) (Value.cells (.int .i64 v3)).toList) :: G)
      → DropTo k (posTab p AC cC AR cR ((cash.set t.buyer.toNat v4).set t.seller.toNat v5) ((rs.set t.buyer.toNat ⟨a.A, a.c, a.l.set t.bond.toNat v2⟩).set t.seller.toNat ⟨b.A, b.c, b.l.set t.bond.toNat v3⟩) F) := fun k hk => by
    refine dt_trans hk (dt_perm ?_)
    rw [lay_int (by omega), lay_int (by simp only [List.length_set]; omega), lay_int (by omega), lay_int (by omega)]
    unfold posTab
    have e4 : ((rs.set t.buyer.toNat ⟨a.A, a.c, a.l.set t.bond.toNat v2⟩).set t.seller.toNat ⟨b.A, b.c, b.l.set t.bond.toNat v3⟩).map PRow.hd = rs.map PRow.hd := by
      rw [List.map_set, List.map_set]
      have f1 : PRow.hd ⟨a.A, a.c, a.l.set t.bond.toNat v2⟩ = PRow.hd a := by unfold PRow.hd; simp only [List.length_set]
      have f2 : PRow.hd ⟨b.A, b.c, b.l.set t.bond.toNat v3⟩ = PRow.hd b := by unfold PRow.hd; simp only [List.length_set]
      rw [f1, f2, set_self (l := rs.map PRow.hd) (i := t.buyer.toNat) (a := PRow.hd a) (by rw [List.getElem?_map, ha.at_]; rfl), set_self (l := rs.map PRow.hd) (i := t.seller.toNat) (a := PRow.hd b) (by rw [List.getElem?_map, hb.at_]; rfl)]
    rw [e4]
    simp only [List.length_set]
    refine List.Perm.cons _ (List.Perm.cons _ (List.Perm.cons _ ?_))
    have e5 := ((hR ⟨a.A, a.c, a.l.set t.bond.toNat v2⟩ ⟨b.A, b.c, b.l.set t.bond.toNat v3⟩).map PRow.ck).append_right F
    have f3 : PRow.ck ⟨a.A, a.c, a.l.set t.bond.toNat v2⟩ = .own a.A a.l.length a.c 2 1 ((a.l.set t.bond.toNat v2).map (Value.int .i64)) := by unfold PRow.ck; simp only [List.length_set]
    have f4 : PRow.ck ⟨b.A, b.c, b.l.set t.bond.toNat v3⟩ = .own b.A b.l.length b.c 2 1 ((b.l.set t.bond.toNat v3).map (Value.int .i64)) := by unfold PRow.ck; simp only [List.length_set]
    rw [List.map_cons, List.map_cons, f3, f4] at e5
    rw [← hG]
    exact e5.symm
  have hpsok : (f1 && f2 && f3 && f4 && f5) = true → psOf ((cash.set t.buyer.toNat v4).set t.seller.toNat v5) ((rs.set t.buyer.toNat ⟨a.A, a.c, a.l.set t.bond.toNat v2⟩).set t.seller.toNat ⟨b.A, b.c, b.l.set t.bond.toNat v3⟩) = putP (psOf cash rs) t := fun hf => by
    rw [hEok hf]
    unfold psOf
    congr 1
    rw [List.map_set, List.map_set]
    have q1 : at0 (rs.map PRow.l) t.buyer = some a.l := by unfold at0; rw [if_neg (by omega), List.getElem?_map, ha.at_]; rfl
    rw [setRow_at q1]
    have q2 : at0 ((rs.map PRow.l).set t.buyer.toNat (a.l.set t.bond.toNat v2)) t.seller = some b.l := by
      unfold at0
      rw [if_neg (by omega), List.getElem?_set_ne (by omega), List.getElem?_map, hb.at_]; rfl
    rw [setRow_at q2]
  generalize putP (psOf cash rs) t = PP at *
  refine spec_body Try.func49 rfl rfl Try.results49 Try.ntmps49 rfl rfl ?_
  refine aw_perm hpull ?_
  refine aw_reads (headsReads (W := W) mem2) rfl (fun hAR => ?_)
  have hAR' := hAR (by omega)
  refine aw_reads (Reads.ints (W := W) mem1 rfl) rfl (fun hAC => ?_)
  have hAC' := hAC (by omega)
  refine aw_reads (Reads.ints (W := W) mem3 rfl) rfl (fun hAa => ?_)
  have hAa' := hAa (by omega)
  refine aw_reads (Reads.ints (W := W) mem4 rfl) rfl (fun hAb => ?_)
  have hAb' := hAb (by omega)
  repeat' (first
    | apply aw_seq | apply aw_region | apply aw_ret | apply aw_skip | apply aw_exit | apply aw_block | apply es_nil
    | (apply es_pure hT; (iterate 4 exact rfl)) | (apply es_skip; (iterate 3 exact rfl)) | (apply es_skip0; (iterate 2 exact rfl))
    | (apply es_i64 hT; (iterate 4 exact rfl); (iterate 2 (first | omega | (dsimp only; omega))))
    | (apply aw_draw [15, 66] [] hmix; decide +kernel)
    | (apply aw_treeD [] [] (.step 0 <| .step 1 <| .step 2 <| .step 3 <| .step 4 <| .step 5 <| .step 6 <| .step 7 <| .step 8 <| .step 9 <| .step 10 <| .step 11 <| .step 12 <| .step 13 <| .step 14 <| .step 15 <| .step 16 <| .step 17 <| .step 18 <| .step 20 <| .step 21 <| .step 22 <| .alt (.step 19 <| .step 23 <| .step 24 <| .step 25 <| .nil) ((.step 23 <| .step 19 <| .step 24 <| .step 25 <| .nil))) hmix; decide +kernel) | apply ep_nil | apply ep_alt | (apply ep_step; exact rfl)
    | (apply aw_treeD [] [] (.step 0 <| .step 1 <| .step 2 <| .step 3 <| .step 4 <| .step 5 <| .step 6 <| .step 7 <| .step 8 <| .step 9 <| .step 10 <| .step 12 <| .step 13 <| .step 14 <| .alt (.step 11 <| .step 15 <| .step 16 <| .step 17 <| .nil) ((.step 15 <| .step 11 <| .step 16 <| .step 17 <| .nil))) hmix; decide +kernel) | apply ep_nil | apply ep_alt | (apply ep_step; exact rfl)
    | (apply es_box; (iterate 5 exact rfl); intro g3)
    | (apply es_callQ (hs := (h1 _ (by (repeat (first | exact List.mem_cons_self | apply List.mem_cons_of_mem | apply List.mem_append_right))) (by (repeat (first | exact List.mem_cons_self | apply List.mem_cons_of_mem | apply List.mem_append_right))))); (iterate 7 exact rfl))
    | (apply es_callQ (hs := (h2 _ (by (repeat (first | exact List.mem_cons_self | apply List.mem_cons_of_mem | apply List.mem_append_right))) (by (repeat (first | exact List.mem_cons_self | apply List.mem_cons_of_mem | apply List.mem_append_right))))); (iterate 7 exact rfl))
    | (apply es_callQ (hs := (hTm.mono (by simp))); (iterate 7 exact rfl))
    | (apply es_callQ (hs := (hNr.mono (by simp))); (iterate 7 exact rfl))
    | (apply es_callQ (hs := (hA2.mono (by simp))); (iterate 7 exact rfl))
    | (apply es_callQ (hs := (hA3.mono (by simp))); (iterate 7 exact rfl))
    | (apply es_callQ (hs := (hA4.mono (by simp))); (iterate 7 exact rfl))
    | (apply es_callQ (hs := (hA5.mono (by simp))); (iterate 7 exact rfl))
    | (apply es_store hT; (iterate 6 exact rfl); (repeat (first | exact sel0 | apply selS | apply selApp)); (iterate 3 exact rfl); exact Nat.le_of_ble_eq_true rfl)
    | (apply es_idx hT; (iterate 8 exact rfl); (iterate 2 omega); first | exact hAR' | exact hAC' | exact hAa' | exact hAb')
    | (apply es_load; (iterate 5 exact rfl); first | exact ld_row hT rfl rfl (headsReads (by (repeat (first | exact List.mem_cons_self | apply List.mem_cons_of_mem | apply List.mem_append_right)))) rfl hixa | exact ld_row hT rfl rfl (headsReads (by (repeat (first | exact List.mem_cons_self | apply List.mem_cons_of_mem | apply List.mem_append_right)))) rfl hixb | exact ld_row hT rfl rfl (Reads.ints (by (repeat (first | exact List.mem_cons_self | apply List.mem_cons_of_mem | apply List.mem_append_right))) rfl) rfl hiB | exact ld_row hT rfl rfl (Reads.ints (by (repeat (first | exact List.mem_cons_self | apply List.mem_cons_of_mem | apply List.mem_append_right))) rfl) rfl hiS | exact ld_row hT rfl rfl (Reads.ints (by (repeat (first | exact List.mem_cons_self | apply List.mem_cons_of_mem | apply List.mem_append_right))) rfl) rfl hjB | exact ld_row hT rfl rfl (Reads.ints (by (repeat (first | exact List.mem_cons_self | apply List.mem_cons_of_mem | apply List.mem_append_right))) rfl) rfl hjS)
    | (apply es_storeRow (A := a.A) hT; (iterate 6 exact rfl); (repeat (first | exact sel0 | apply selS | apply selApp)); exact rfl; exact rfl; exact rfl; (show t.bond.toNat * 1 + 1 ≤ a.l.length * 1; omega); omega)
    | (apply es_storeRow (A := b.A) hT; (iterate 6 exact rfl); (repeat (first | exact sel0 | apply selS | apply selApp)); exact rfl; exact rfl; exact rfl; (show t.bond.toNat * 1 + 1 ≤ b.l.length * 1; omega); omega)
    | (apply es_storeRow (A := AC) hT; (iterate 6 exact rfl); (repeat (first | exact sel0 | apply selS | apply selApp)); exact rfl; exact rfl; exact rfl; (show t.buyer.toNat * 1 + 1 ≤ cash.length * 1; omega); omega)
    | (apply es_storeRow (A := AC) hT; (iterate 6 exact rfl); (repeat (first | exact sel0 | apply selS | apply selApp)); exact rfl; exact rfl; exact rfl; (show t.seller.toNat * 1 + 1 ≤ cash.length * 1; omega); omega)
    | (apply es_load; (iterate 5 exact rfl); first | (apply ld_blk hT; exact rfl; exact rfl; (repeat (first | exact List.mem_cons_self | apply List.mem_cons_of_mem | apply List.mem_append_right)); exact rfl; exact rfl) | (apply ld_all hT; exact rfl; exact rfl; (repeat (first | exact List.mem_cons_self | apply List.mem_cons_of_mem | apply List.mem_append_right)); exact rfl))
    | (apply es_box; (iterate 5 exact rfl); intro _) | (apply es_alloc hT; (iterate 5 exact rfl); intro _)
    | (apply aw_condT; (iterate 2 exact rfl)) | (apply aw_condF; (iterate 2 exact rfl))
    | (apply es_case; exact rfl; all_goals intro hb; all_goals (fail_if_success (change true = true at hb)); all_goals (fail_if_success (change false = false at hb)); all_goals (try dsimp only at hb); all_goals (try simp only [hb]); all_goals (first | replace hb := of_decide_eq_true hb | replace hb := of_decide_eq_false hb | replace hb := bne_t hb | replace hb := bne_f hb | replace hb := eq_of_beq hb | replace hb := ne_of_beq_false hb | skip); all_goals (try (exfalso; omega)))
    | (apply aw_cond; exact rfl; all_goals intro hb; all_goals (try dsimp only at hb); all_goals (try simp only [hb]); all_goals (first | replace hb := of_decide_eq_true hb | replace hb := of_decide_eq_false hb | replace hb := bne_t hb | replace hb := bne_f hb | replace hb := eq_of_beq hb | replace hb := ne_of_beq_false hb | skip); all_goals (try (exfalso; omega))))
  all_goals first
    | (exfalso; omega)
    | ((have flag0 : (f1 && f2 && f3 && f4 && f5) = false := by (clear hdrop hfin hpsok hEok hEno hE hI h1 h2 hpull; simp only [Bool.not_eq_true', Bool.not_eq_false'] at *; simp [*])); apply ret1; exact rfl; exact ⟨_, hdrop _ (by (repeat (first | exact dt_end | (apply dt_cons; · (repeat (first | exact sel0 | apply selS | apply selApp))) | apply dt_skip | apply dt_both))), by rw [flag0]; rfl, cash, rs, (hEno flag0).symm, rfl⟩)
    | ((have flag1 : (f1 && f2 && f3 && f4 && f5) = true := by (clear hdrop hfin hpsok hEok hEno hE hI h1 h2 hpull; simp only [Bool.not_eq_true', Bool.not_eq_false'] at *; simp [*])); apply ret1; exact rfl; exact ⟨_, hfin _ (by (repeat (first | exact dt_end | (apply dt_cons; · (repeat (first | exact sel0 | apply selS | apply selApp))) | apply dt_skip | apply dt_both))), by rw [flag1]; rfl, _, _, hpsok flag1, rfl⟩)
    | skip
end Go.Proofs.Ytjcnaeengplcbaa

set_option linter.unusedSimpArgs false
set_option linter.unusedVariables false
namespace Go.Sl
open Go Go.RowKit
variable {P : Program} {W : World} {T : Tab} {N : Nat} {env : Env} {h h' : List Chunk} {kf : KF} {ops : Array Oper} {K : Env → List Chunk → Prop} {o : Oper} {rest : List Oper}

theorem pullA0 {L R : List Chunk} : (L ++ R).Perm (L ++ R) := List.Perm.refl _
theorem pullAS {x : Chunk} {F L G : List Chunk} (hp : F.Perm (L ++ G)) : (x :: F).Perm (L ++ x :: G) := (hp.cons x).trans List.perm_middle.symm
theorem pullAA {X F L G : List Chunk} (hp : F.Perm (L ++ G)) : (X ++ F).Perm (L ++ (X ++ G)) := (hp.append_left X).trans (by
  rw [← List.append_assoc, ← List.append_assoc]
  exact (List.perm_append_comm).append_right G)
theorem permCA {h L G F : List Chunk} (h1 : h.Perm (L ++ G)) (h2 : G.Perm F) : h.Perm (L ++ F) := h1.trans (h2.append_left L)
end Go.Sl

set_option linter.unusedSimpArgs false
set_option linter.unusedVariables false
namespace Go.Proofs.Ytjcnaeengplcbaa
open Go Go.Sl
attribute [local irreducible] AW ES EP Ld RetQ
set_option maxRecDepth 100000

theorem pos_Put (W : World) (F : List Chunk) (p : Nat) (AC : Option Addr) (cC : Nat) (AR : Option Addr) (cR : Nat) (cash : List Int) (rs : List PRow) (np nb : Nat) (hP : PsOK np nb (psOf cash rs)) (t : TradeR) (hpr : inW t.price) (hqt : inW t.qty) :
    FSpec Try.prog W 49 [.pointer (some ⟨p, 0, none⟩), .agg t.enc.toArray] (posTab p AC cC AR cR cash rs F) (fun v h' => v = .int .i64 (putE (psOf cash rs) t) ∧ ∃ cash' rs', psOf cash' rs' = putP (psOf cash rs) t ∧ h' = posTab p AC cC AR cR cash' rs' F) := by
  by_cases hbad : isPos (psOf cash rs) t.buyer t.bond = false ∨ isPos (psOf cash rs) t.seller t.bond = false ∨ t.buyer = t.seller ∨ t.price < 1 ∨ t.qty < 1
  · have hE : putE (psOf cash rs) t = 1 := by unfold putE; rw [if_pos hbad]
    refine (pos_PutBad W F p AC cC AR cR cash rs np nb hP t hbad).mono (fun v h' hh => ?_)
    obtain ⟨rfl, rfl⟩ := hh
    exact ⟨by rw [hE], cash, rs, by unfold putP; rw [if_neg (by rw [hE]; omega)], rfl⟩
  · exact pos_PutOk W F p AC cC AR cR cash rs np nb hP t hpr hqt hbad
theorem isPosN_in {np nb : Nat} (h : (1 ≤ np ∧ np ≤ 8) ∧ 1 ≤ nb ∧ nb ≤ 4) : isPosN np nb = true := by
  unfold isPosN; simp; omega
theorem pos_NewT (W : World) (h : List Chunk) (np nb : Nat) (hn : (1 ≤ np ∧ np ≤ 8) ∧ 1 ≤ nb ∧ nb ≤ 4) : FSpec Try.prog W 32 [.int .i64 np, .int .i64 nb] h
    (fun v h' => ∃ p AC cC AR cR cash rs, v = .pointer (some ⟨p, 0, none⟩) ∧ psOf cash rs = zeroPs np nb ∧ h' = posTab p AC cC AR cR cash rs h) := by
  refine (pos_New W h np nb).mono (fun v h' hh => ?_)
  rcases hh with ⟨h1, _⟩ | ⟨_, p, AC, cC, AR, cR, rs, rfl, rfl, hrs⟩
  · rw [isPosN_in hn] at h1; cases h1
  · exact ⟨p, AC, cC, AR, cR, _, rs, rfl, by unfold psOf zeroPs; rw [hrs]; rfl, rfl⟩
theorem eqPs_step {np nb : Nat} {w p : Ps} {k : Nat} (h : ∀ j, j < k → eqOne nb w p j = true) (hk : eqOne nb w p k = true) : ∀ j, j < k + 1 → eqOne nb w p j = true := fun j hj => by
  by_cases e : j = k
  · rw [e]; exact hk
  · exact h j (by omega)
theorem eqPs_all {np nb : Nat} {w p : Ps} (h : ∀ j, j < np → eqOne nb w p j = true) : eqPs np nb w p = true := by
  unfold eqPs
  rw [List.all_eq_true]
  exact fun j hj => h j (List.mem_range.1 hj)
theorem eqPs_no {np nb : Nat} {w p : Ps} {k : Nat} (hk : k < np) (h : eqOne nb w p k = false) : eqPs np nb w p = false := by
  unfold eqPs
  rw [List.all_eq_false]
  exact ⟨k, List.mem_range.2 hk, by rw [h]; decide⟩
theorem eqOne_all {nb : Nat} {w p : Ps} {k : Nat} (hc : cashOf w k = cashOf p k) (h : ∀ i : Nat, i < nb → posOf w k i = posOf p k i) : eqOne nb w p k = true := by
  unfold eqOne
  simp only [Bool.and_eq_true, beq_iff_eq, List.all_eq_true]
  exact ⟨hc, fun i hi => h i (List.mem_range.1 hi)⟩
theorem eqOne_cash {nb : Nat} {w p : Ps} {k : Nat} (hc : ¬ cashOf w k = cashOf p k) : eqOne nb w p k = false := by
  unfold eqOne
  rw [Bool.and_eq_false_iff]
  exact .inl (by simpa using hc)
theorem eqOne_pos {nb : Nat} {w p : Ps} {k i : Nat} (hi : i < nb) (hc : ¬ posOf w k i = posOf p k i) : eqOne nb w p k = false := by
  unfold eqOne
  rw [Bool.and_eq_false_iff]
  refine .inr ?_
  rw [List.all_eq_false]
  exact ⟨i, List.mem_range.2 hi, by simpa using hc⟩
theorem posTab_mem {p : Nat} {AC : Option Addr} {cC : Nat} {AR : Option Addr} {cR : Nat} {cash : List Int} {rs : List PRow} {F : List Chunk} : ∀ c ∈ posTab p AC cC AR cR cash rs [], c ∈ posTab p AC cC AR cR cash rs F := fun c hc => by
  unfold posTab at *
  rw [List.append_nil] at hc
  rcases List.mem_cons.1 hc with rfl | hc
  · exact mem0
  rcases List.mem_cons.1 hc with rfl | hc
  · exact mem1
  rcases List.mem_cons.1 hc with rfl | hc
  · exact mem2
  exact List.mem_cons_of_mem _ (List.mem_cons_of_mem _ (List.mem_cons_of_mem _ (List.mem_append_left _ hc)))
theorem posTab_keep {p : Nat} {AC : Option Addr} {cC : Nat} {AR : Option Addr} {cR : Nat} {cash : List Int} {rs : List PRow} {F : List Chunk} : ∀ c ∈ F, c ∈ posTab p AC cC AR cR cash rs F := fun c hc => by
  unfold posTab
  exact List.mem_cons_of_mem _ (List.mem_cons_of_mem _ (List.mem_cons_of_mem _ (List.mem_append_right _ hc)))
theorem posTab_drop {p : Nat} {AC : Option Addr} {cC : Nat} {AR : Option Addr} {cR : Nat} {cash : List Int} {rs : List PRow} {F : List Chunk} : DropTo (posTab p AC cC AR cR cash rs F) F := dt_skip (dt_skip (dt_skip (dt_app dt_end)))
theorem pos_CashG (W : World) (p : Nat) (AC : Option Addr) (cC : Nat) (AR : Option Addr) (cR : Nat) (cash : List Int) (rs : List PRow) (np nb : Nat) (h1 : 1 ≤ nb) (hP : PsOK np nb (psOf cash rs)) (who : Int) :
    QSpec Try.prog W 50 [.pointer (some ⟨p, 0, none⟩), .int .i64 who] (posTab p AC cC AR cR cash rs []) (.int .i64 (cashOf (psOf cash rs) who)) := by
  have hnc := hP.nc
  have hnp := hP.np
  simp only [psOf, List.length_map] at hnc hnp
  rw [← cashR_eq]
  refine (pos_Cash W p AC cC AR cR cash rs (by omega) (fun r hr => ?_) who).mono (mem3P mem0 mem2 mem1)
  have := hP.row r.l (List.mem_map.2 ⟨r, hr, rfl⟩)
  omega
set_option maxHeartbeats 2000000 in
theorem audit_Sums (W : World) (h : List Chunk) (np nb : Nat) (hn : (1 ≤ np ∧ np ≤ 8) ∧ 1 ≤ nb ∧ nb ≤ 4) (A : Option Addr) (c : Nat) (l : List TradeR) (hr : Reads W h A l.length 8 (l.flatMap TradeR.enc)) (hb : l.length ≤ 1000000) (hok : ∀ t ∈ l, inW t.price ∧ inW t.qty)
    (q : Nat) (AC : Option Addr) (cC : Nat) (AR : Option Addr) (cR : Nat) (cash : List Int) (rs : List PRow) (hP : PsOK np nb (psOf cash rs)) (hq : ∀ c ∈ posTab q AC cC AR cR cash rs [], c ∈ h) :
    QSpec Try.prog W 21 [.int .i64 np, .int .i64 nb, .slice A l.length c, .pointer (some ⟨q, 0, none⟩)] h (.bool (sumsV np nb l (psOf cash rs))) := by
  refine QSpec.ofD (fun h' hs => ?_)
  have hrd := hr.mono hs
  have hq' : ∀ c ∈ posTab q AC cC AR cR cash rs [], c ∈ h' := fun c hc => hs c (hq c hc)
  have hBo := fun who bond k (hk : ∀ c ∈ h', c ∈ k) => (pos_Bonds W q AC cC AR cR cash rs np nb hP who bond).mono (h' := k) (fun c hc => hk c (hq' c hc))
  have hCa := fun who k (hk : ∀ c ∈ h', c ∈ k) => (pos_CashG W q AC cC AR cR cash rs np nb (by omega) hP who).mono (h' := k) (fun c hc => hk c (hq' c hc))
  have hNw := fun k => pos_NewT W k np nb hn
  unfold sumsV
  refine spec_body Try.func21 rfl rfl Try.results21 Try.ntmps21 rfl rfl ?_
  refine aw_reads hrd rfl (fun hA => ?_)
  repeat' (first
    | apply aw_seq | apply aw_region | apply aw_ret | apply aw_skip | apply aw_exit | apply aw_block | apply es_nil
    | (apply es_pure hT; (iterate 4 exact rfl)) | (apply es_skip; (iterate 3 exact rfl)) | (apply es_skip0; (iterate 2 exact rfl))
    | (apply es_i64 hT; (iterate 4 exact rfl); (iterate 2 (first | omega | (dsimp only; omega))))
    | (apply aw_draw [] [] hmix; decide +kernel)
    | (apply es_call (hs := (hNw _)); (iterate 7 exact rfl); rintro _ _ ⟨p, AC2, cC2, AR2, cR2, cash0, rs0, rfl, hz, rfl⟩)
    | (apply es_load; (iterate 5 exact rfl); first | (apply ld_blk hT; exact rfl; exact rfl; (repeat (first | exact List.mem_cons_self | apply List.mem_cons_of_mem | apply List.mem_append_right)); exact rfl; exact rfl) | (apply ld_all hT; exact rfl; exact rfl; (repeat (first | exact List.mem_cons_self | apply List.mem_cons_of_mem | apply List.mem_append_right)); exact rfl))
    | (apply es_box; (iterate 5 exact rfl); intro _) | (apply es_alloc hT; (iterate 5 exact rfl); intro _)
    | (apply aw_condT; (iterate 2 exact rfl)) | (apply aw_condF; (iterate 2 exact rfl))
    | (apply es_case; exact rfl; all_goals intro hb; all_goals (fail_if_success (change true = true at hb)); all_goals (fail_if_success (change false = false at hb)); all_goals (try dsimp only at hb); all_goals (try simp only [hb]); all_goals (first | replace hb := of_decide_eq_true hb | replace hb := of_decide_eq_false hb | replace hb := bne_t hb | replace hb := bne_f hb | replace hb := eq_of_beq hb | replace hb := ne_of_beq_false hb | skip); all_goals (try (exfalso; omega)))
    | (apply aw_cond; exact rfl; all_goals intro hb; all_goals (try dsimp only at hb); all_goals (try simp only [hb]); all_goals (first | replace hb := of_decide_eq_true hb | replace hb := of_decide_eq_false hb | replace hb := bne_t hb | replace hb := bne_f hb | replace hb := eq_of_beq hb | replace hb := ne_of_beq_false hb | skip); all_goals (try (exfalso; omega))))
  all_goals try (exfalso; omega)
  refine aw_loopD (α := Nat × List Int × List PRow) (E := fun x => [(0, .int .i64 np), (1, .int .i64 nb), (3, .pointer (some ⟨q, 0, none⟩)), (9, .pointer (some ⟨p, 0, none⟩)), (19, .slice A l.length c), (20, .int .i64 l.length), (21, .int .i64 x.1)]) (H := fun x => posTab p AC2 cC2 AR2 cR2 x.2.1 x.2.2 h') (μ := fun x => l.length - x.1)
    (S := fun x => x.1 ≤ l.length ∧ PsOK np nb (psOf x.2.1 x.2.2) ∧ putAll l (zeroPs np nb) = putAll (l.drop x.1) (psOf x.2.1 x.2.2)) (0, cash0, rs0) ⟨Nat.zero_le _, by rw [hz]; exact zeroPs_ok np nb, by rw [hz]; rfl⟩ ⟨rfl, rfl, rfl, rfl, rfl, rfl, rfl, trivial⟩ (by (repeat (first | exact dt_end | (apply dt_cons; · (repeat (first | exact sel0 | apply selS | apply selApp))) | apply dt_skip | apply dt_both))) ?_
  rintro ⟨k, cash1, rs1⟩ ⟨hk, hok1, hall⟩
  dsimp only at hk hok1 hall ⊢
  by_cases hlt : k < l.length
  · obtain ⟨t, ht⟩ : ∃ t, l[k]? = some t := ⟨l[k]'(by omega), List.getElem?_eq_getElem (by omega)⟩
    have ht2 : l[(k : Int).toNat]? = some t := by simpa using ht
    have hA' := hA (by omega)
    have hd1 : decide ((k : Int) < (l.length : Int)) = true := by simp; omega
    obtain ⟨w1, w2⟩ := hok t (List.mem_of_getElem? ht)
    have hPut := fun G => pos_Put W G p AC2 cC2 AR2 cR2 cash1 rs1 np nb hok1 t w1 w2
    rw [putAll_step ht] at hall
    by_cases hE : putE (psOf cash1 rs1) t = 0
    · rw [hE] at hPut
      rw [if_pos hE] at hall
      repeat' (first
        | apply aw_seq | apply aw_region | apply aw_ret | apply aw_skip | apply aw_exit | apply aw_block | apply es_nil
        | (apply es_pure hT; (iterate 4 exact rfl)) | (apply es_skip; (iterate 3 exact rfl)) | (apply es_skip0; (iterate 2 exact rfl))
        | (apply es_i64 hT; (iterate 4 exact rfl); (iterate 2 (first | omega | (dsimp only; omega))))
        | (apply aw_draw [] [] hmix; decide +kernel)
        | (apply es_idx hT; (iterate 8 exact rfl); (iterate 2 omega); exact hA')
        | (apply es_load; (iterate 5 exact rfl); first | exact ld_elem hT rfl rfl (hrd.mono posTab_keep) TradeR.enc_len rfl ht2 rfl | (apply ld_all hT; exact rfl; exact rfl; (repeat (first | exact List.mem_cons_self | apply List.mem_cons_of_mem | apply List.mem_append_right)); exact rfl))
        | (apply es_alloc hT; (iterate 5 exact rfl); first | ((fail_if_success (have q := g11)); intro g11) | intro _)
        | (apply es_store hT; (iterate 6 exact rfl); (repeat (first | exact sel0 | apply selS | apply selApp)); (iterate 3 exact rfl); exact Nat.le_of_ble_eq_true rfl)
        | (apply es_call (hs := (FSpec.perm (hPut _) (by (repeat (first | exact List.Perm.refl _ | (apply permC; · (repeat (first | exact sel0 | apply selS | apply selApp))) | (apply permCA; · (repeat (first | exact pullA0 | apply pullAS | apply pullAA)))))))); (iterate 7 exact rfl); rintro _ _ ⟨rfl, cash2, rs2, hps, rfl⟩)
        | (apply es_load; (iterate 5 exact rfl); first | (apply ld_blk hT; exact rfl; exact rfl; (repeat (first | exact List.mem_cons_self | apply List.mem_cons_of_mem | apply List.mem_append_right)); exact rfl; exact rfl) | (apply ld_all hT; exact rfl; exact rfl; (repeat (first | exact List.mem_cons_self | apply List.mem_cons_of_mem | apply List.mem_append_right)); exact rfl))
        | (apply es_box; (iterate 5 exact rfl); intro _) | (apply es_alloc hT; (iterate 5 exact rfl); intro _)
        | (apply aw_condT; (iterate 2 exact rfl)) | (apply aw_condF; (iterate 2 exact rfl))
        | (apply es_case; exact rfl; all_goals intro hb; all_goals (fail_if_success (change true = true at hb)); all_goals (fail_if_success (change false = false at hb)); all_goals (try dsimp only at hb); all_goals (try simp only [hb]); all_goals (first | replace hb := of_decide_eq_true hb | replace hb := of_decide_eq_false hb | replace hb := bne_t hb | replace hb := bne_f hb | replace hb := eq_of_beq hb | replace hb := ne_of_beq_false hb | skip); all_goals (try (exfalso; omega)))
        | (apply aw_cond; exact rfl; all_goals intro hb; all_goals (try dsimp only at hb); all_goals (try simp only [hb]); all_goals (first | replace hb := of_decide_eq_true hb | replace hb := of_decide_eq_false hb | replace hb := bne_t hb | replace hb := bne_f hb | replace hb := eq_of_beq hb | replace hb := ne_of_beq_false hb | skip); all_goals (try (exfalso; omega))))
      all_goals first
        | (exfalso; omega)
        | exact loopq_end (k + 1, cash2, rs2) (by dsimp only; omega) ⟨by dsimp only; omega, by dsimp only; rw [hps]; exact putPs_ok hok1 t, by dsimp only; rw [hps]; exact hall⟩ ⟨rfl, rfl, rfl, rfl, rfl, rfl, rfl, trivial⟩ (by (repeat (first | exact dt_end | (apply dt_cons; · (repeat (first | exact sel0 | apply selS | apply selApp))) | apply dt_skip | apply dt_both)))
        | skip
    · rw [if_neg hE] at hall
      generalize putE (psOf cash1 rs1) t = e at hPut hE
      repeat' (first
        | apply aw_seq | apply aw_region | apply aw_ret | apply aw_skip | apply aw_exit | apply aw_block | apply es_nil
        | (apply es_pure hT; (iterate 4 exact rfl)) | (apply es_skip; (iterate 3 exact rfl)) | (apply es_skip0; (iterate 2 exact rfl))
        | (apply es_i64 hT; (iterate 4 exact rfl); (iterate 2 (first | omega | (dsimp only; omega))))
        | (apply aw_draw [] [] hmix; decide +kernel)
        | (apply es_idx hT; (iterate 8 exact rfl); (iterate 2 omega); exact hA')
        | (apply es_load; (iterate 5 exact rfl); first | exact ld_elem hT rfl rfl (hrd.mono posTab_keep) TradeR.enc_len rfl ht2 rfl | (apply ld_all hT; exact rfl; exact rfl; (repeat (first | exact List.mem_cons_self | apply List.mem_cons_of_mem | apply List.mem_append_right)); exact rfl))
        | (apply es_alloc hT; (iterate 5 exact rfl); first | ((fail_if_success (have q := g11)); intro g11) | intro _)
        | (apply es_store hT; (iterate 6 exact rfl); (repeat (first | exact sel0 | apply selS | apply selApp)); (iterate 3 exact rfl); exact Nat.le_of_ble_eq_true rfl)
        | (apply es_call (hs := (FSpec.perm (hPut _) (by (repeat (first | exact List.Perm.refl _ | (apply permC; · (repeat (first | exact sel0 | apply selS | apply selApp))) | (apply permCA; · (repeat (first | exact pullA0 | apply pullAS | apply pullAA)))))))); (iterate 7 exact rfl); rintro _ _ ⟨rfl, cash2, rs2, hps, rfl⟩)
        | (apply es_load; (iterate 5 exact rfl); first | (apply ld_blk hT; exact rfl; exact rfl; (repeat (first | exact List.mem_cons_self | apply List.mem_cons_of_mem | apply List.mem_append_right)); exact rfl; exact rfl) | (apply ld_all hT; exact rfl; exact rfl; (repeat (first | exact List.mem_cons_self | apply List.mem_cons_of_mem | apply List.mem_append_right)); exact rfl))
        | (apply es_box; (iterate 5 exact rfl); intro _) | (apply es_alloc hT; (iterate 5 exact rfl); intro _)
        | (apply aw_condT; (iterate 2 exact rfl)) | (apply aw_condF; (iterate 2 exact rfl))
        | (apply es_case; exact rfl; all_goals intro hb; all_goals (fail_if_success (change true = true at hb)); all_goals (fail_if_success (change false = false at hb)); all_goals (try dsimp only at hb); all_goals (try simp only [hb]); all_goals (first | replace hb := of_decide_eq_true hb | replace hb := of_decide_eq_false hb | replace hb := bne_t hb | replace hb := bne_f hb | replace hb := eq_of_beq hb | replace hb := ne_of_beq_false hb | skip); all_goals (try (exfalso; omega)))
        | (apply aw_cond; exact rfl; all_goals intro hb; all_goals (try dsimp only at hb); all_goals (try simp only [hb]); all_goals (first | replace hb := of_decide_eq_true hb | replace hb := of_decide_eq_false hb | replace hb := bne_t hb | replace hb := bne_f hb | replace hb := eq_of_beq hb | replace hb := ne_of_beq_false hb | skip); all_goals (try (exfalso; omega))))
      all_goals first
        | (exfalso; omega)
        | (apply ret1; exact rfl; exact ⟨by rw [hall], dt_trans (show DropTo _ (posTab p AC2 cC2 AR2 cR2 cash2 rs2 h') by (repeat (first | exact dt_end | (apply dt_cons; · (repeat (first | exact sel0 | apply selS | apply selApp))) | apply dt_skip | apply dt_both))) posTab_drop⟩)
        | skip
  · obtain rfl : k = l.length := by omega
    have hd1 : decide ((l.length : Int) < (l.length : Int)) = false := by simp
    rw [List.drop_length] at hall
    rw [hall]
    dsimp only [putAll]
    have hBo1 := fun who bond k (hk : ∀ c ∈ posTab p AC2 cC2 AR2 cR2 cash1 rs1 h', c ∈ k) => (pos_Bonds W p AC2 cC2 AR2 cR2 cash1 rs1 np nb hok1 who bond).mono (h' := k) (fun c hc => hk c (posTab_mem c hc))
    have hCa1 := fun who k (hk : ∀ c ∈ posTab p AC2 cC2 AR2 cR2 cash1 rs1 h', c ∈ k) => (pos_CashG W p AC2 cC2 AR2 cR2 cash1 rs1 np nb (by omega) hok1 who).mono (h' := k) (fun c hc => hk c (posTab_mem c hc))
    have hBo2 := fun who bond => hBo who bond (posTab p AC2 cC2 AR2 cR2 cash1 rs1 h') posTab_keep
    have hCa2 := fun who => hCa who (posTab p AC2 cC2 AR2 cR2 cash1 rs1 h') posTab_keep
    have hdr : DropTo (posTab p AC2 cC2 AR2 cR2 cash1 rs1 h') h' := posTab_drop
    generalize posTab p AC2 cC2 AR2 cR2 cash1 rs1 h' = H1 at *
    generalize psOf cash1 rs1 = w at *
    generalize psOf cash rs = v at *
    repeat' (first
      | apply aw_seq | apply aw_region | apply aw_ret | apply aw_skip | apply aw_exit | apply aw_block | apply es_nil
      | (apply es_pure hT; (iterate 4 exact rfl)) | (apply es_skip; (iterate 3 exact rfl)) | (apply es_skip0; (iterate 2 exact rfl))
      | (apply es_i64 hT; (iterate 4 exact rfl); (iterate 2 (first | omega | (dsimp only; omega))))
      | (apply aw_draw [] [] hmix; decide +kernel)
      | (apply es_load; (iterate 5 exact rfl); first | (apply ld_blk hT; exact rfl; exact rfl; (repeat (first | exact List.mem_cons_self | apply List.mem_cons_of_mem | apply List.mem_append_right)); exact rfl; exact rfl) | (apply ld_all hT; exact rfl; exact rfl; (repeat (first | exact List.mem_cons_self | apply List.mem_cons_of_mem | apply List.mem_append_right)); exact rfl))
      | (apply es_box; (iterate 5 exact rfl); intro _) | (apply es_alloc hT; (iterate 5 exact rfl); intro _)
      | (apply aw_condT; (iterate 2 exact rfl)) | (apply aw_condF; (iterate 2 exact rfl))
      | (apply es_case; exact rfl; all_goals intro hb; all_goals (fail_if_success (change true = true at hb)); all_goals (fail_if_success (change false = false at hb)); all_goals (try dsimp only at hb); all_goals (try simp only [hb]); all_goals (first | replace hb := of_decide_eq_true hb | replace hb := of_decide_eq_false hb | replace hb := bne_t hb | replace hb := bne_f hb | replace hb := eq_of_beq hb | replace hb := ne_of_beq_false hb | skip); all_goals (try (exfalso; omega)))
      | (apply aw_cond; exact rfl; all_goals intro hb; all_goals (try dsimp only at hb); all_goals (try simp only [hb]); all_goals (first | replace hb := of_decide_eq_true hb | replace hb := of_decide_eq_false hb | replace hb := bne_t hb | replace hb := bne_f hb | replace hb := eq_of_beq hb | replace hb := ne_of_beq_false hb | skip); all_goals (try (exfalso; omega))))
    all_goals try (exfalso; omega)
    refine aw_loopD (α := Nat) (E := fun x => [(0, .int .i64 np), (1, .int .i64 nb), (3, .pointer (some ⟨q, 0, none⟩)), (9, .pointer (some ⟨p, 0, none⟩)), (30, .int .i64 np), (31, .int .i64 x)]) (H := fun x => H1) (μ := fun x => np - x)
      (S := fun x => x ≤ np ∧ ∀ j, j < x → eqOne nb w v j = true) 0 ⟨Nat.zero_le _, fun j hj => absurd hj (Nat.not_lt_zero _)⟩ ⟨rfl, rfl, rfl, rfl, rfl, rfl, trivial⟩ (by (repeat (first | exact dt_end | (apply dt_cons; · (repeat (first | exact sel0 | apply selS | apply selApp))) | apply dt_skip | apply dt_both))) ?_
    rintro k ⟨hk, hgd⟩
    by_cases hlt : k < np
    · have hd2 : decide ((k : Int) < (np : Int)) = true := by simp; omega
      have c1 := hCa1 k
      have c2 := hCa2 k
      by_cases hc : cashOf w k = cashOf v k
      · rw [hc] at c1
        generalize hcv : cashOf v k = cv at c1 c2 hc
        repeat' (first
          | (apply es_diffB hT; (iterate 5 exact rfl))
          | apply aw_seq | apply aw_region | apply aw_ret | apply aw_skip | apply aw_exit | apply aw_block | apply es_nil
          | (apply es_pure hT; (iterate 4 exact rfl)) | (apply es_skip; (iterate 3 exact rfl)) | (apply es_skip0; (iterate 2 exact rfl))
          | (apply es_i64 hT; (iterate 4 exact rfl); (iterate 2 (first | omega | (dsimp only; omega))))
          | (apply aw_draw [] [] hmix; decide +kernel)
          | (apply es_callQ (hs := (c1 _ (by (intro c hc; (repeat (first | exact hc | apply List.mem_cons_of_mem | apply List.mem_append_right)))))); (iterate 7 exact rfl))
          | (apply es_callQ (hs := (c2.mono (by (intro c hc; (repeat (first | exact hc | apply List.mem_cons_of_mem | apply List.mem_append_right)))))); (iterate 7 exact rfl))
          | (apply es_load; (iterate 5 exact rfl); first | (apply ld_blk hT; exact rfl; exact rfl; (repeat (first | exact List.mem_cons_self | apply List.mem_cons_of_mem | apply List.mem_append_right)); exact rfl; exact rfl) | (apply ld_all hT; exact rfl; exact rfl; (repeat (first | exact List.mem_cons_self | apply List.mem_cons_of_mem | apply List.mem_append_right)); exact rfl))
          | (apply es_box; (iterate 5 exact rfl); intro _) | (apply es_alloc hT; (iterate 5 exact rfl); intro _)
          | (apply aw_condT; (iterate 2 exact rfl)) | (apply aw_condF; (iterate 2 exact rfl))
          | (apply es_case; exact rfl; all_goals intro hb; all_goals (fail_if_success (change true = true at hb)); all_goals (fail_if_success (change false = false at hb)); all_goals (try dsimp only at hb); all_goals (try simp only [hb]); all_goals (first | replace hb := of_decide_eq_true hb | replace hb := of_decide_eq_false hb | replace hb := bne_t hb | replace hb := bne_f hb | replace hb := eq_of_beq hb | replace hb := ne_of_beq_false hb | skip); all_goals (try (exfalso; omega)))
          | (apply aw_cond; exact rfl; all_goals intro hb; all_goals (try dsimp only at hb); all_goals (try simp only [hb]); all_goals (first | replace hb := of_decide_eq_true hb | replace hb := of_decide_eq_false hb | replace hb := bne_t hb | replace hb := bne_f hb | replace hb := eq_of_beq hb | replace hb := ne_of_beq_false hb | skip); all_goals (try (exfalso; omega))))
        all_goals try (exfalso; omega)
        refine aw_loopD (α := Nat) (E := fun x => [(0, .int .i64 np), (1, .int .i64 nb), (3, .pointer (some ⟨q, 0, none⟩)), (9, .pointer (some ⟨p, 0, none⟩)), (12, .int .i64 k), (30, .int .i64 np), (31, .int .i64 k), (41, .int .i64 nb), (42, .int .i64 x)]) (H := fun x => H1) (μ := fun x => nb - x)
          (S := fun x => x ≤ nb ∧ ∀ i : Nat, i < x → posOf w k i = posOf v k i) 0 ⟨Nat.zero_le _, fun j hj => absurd hj (Nat.not_lt_zero _)⟩ ⟨rfl, rfl, rfl, rfl, rfl, rfl, rfl, rfl, rfl, trivial⟩ (by (repeat (first | exact dt_end | (apply dt_cons; · (repeat (first | exact sel0 | apply selS | apply selApp))) | apply dt_skip | apply dt_both))) ?_
        rintro m ⟨hm, hgm⟩
        by_cases hlm : m < nb
        · have hd3 : decide ((m : Int) < (nb : Int)) = true := by simp; omega
          have b1 := hBo1 k m
          have b2 := hBo2 k m
          by_cases hbq : posOf w k m = posOf v k m
          · rw [hbq] at b1
            generalize hbv : posOf v k m = bv at b1 b2 hbq
            repeat' (first
              | (apply es_diffB hT; (iterate 5 exact rfl))
              | apply aw_seq | apply aw_region | apply aw_ret | apply aw_skip | apply aw_exit | apply aw_block | apply es_nil
              | (apply es_pure hT; (iterate 4 exact rfl)) | (apply es_skip; (iterate 3 exact rfl)) | (apply es_skip0; (iterate 2 exact rfl))
              | (apply es_i64 hT; (iterate 4 exact rfl); (iterate 2 (first | omega | (dsimp only; omega))))
              | (apply aw_draw [] [] hmix; decide +kernel)
              | (apply es_callQ (hs := (b1 _ (by (intro c hc; (repeat (first | exact hc | apply List.mem_cons_of_mem | apply List.mem_append_right)))))); (iterate 7 exact rfl))
              | (apply es_callQ (hs := (b2.mono (by (intro c hc; (repeat (first | exact hc | apply List.mem_cons_of_mem | apply List.mem_append_right)))))); (iterate 7 exact rfl))
              | (apply es_load; (iterate 5 exact rfl); first | (apply ld_blk hT; exact rfl; exact rfl; (repeat (first | exact List.mem_cons_self | apply List.mem_cons_of_mem | apply List.mem_append_right)); exact rfl; exact rfl) | (apply ld_all hT; exact rfl; exact rfl; (repeat (first | exact List.mem_cons_self | apply List.mem_cons_of_mem | apply List.mem_append_right)); exact rfl))
              | (apply es_box; (iterate 5 exact rfl); intro _) | (apply es_alloc hT; (iterate 5 exact rfl); intro _)
              | (apply aw_condT; (iterate 2 exact rfl)) | (apply aw_condF; (iterate 2 exact rfl))
              | (apply es_case; exact rfl; all_goals intro hb; all_goals (fail_if_success (change true = true at hb)); all_goals (fail_if_success (change false = false at hb)); all_goals (try dsimp only at hb); all_goals (try simp only [hb]); all_goals (first | replace hb := of_decide_eq_true hb | replace hb := of_decide_eq_false hb | replace hb := bne_t hb | replace hb := bne_f hb | replace hb := eq_of_beq hb | replace hb := ne_of_beq_false hb | skip); all_goals (try (exfalso; omega)))
              | (apply aw_cond; exact rfl; all_goals intro hb; all_goals (try dsimp only at hb); all_goals (try simp only [hb]); all_goals (first | replace hb := of_decide_eq_true hb | replace hb := of_decide_eq_false hb | replace hb := bne_t hb | replace hb := bne_f hb | replace hb := eq_of_beq hb | replace hb := ne_of_beq_false hb | skip); all_goals (try (exfalso; omega))))
            all_goals first
              | (exfalso; omega)
              | exact loopq_end (m + 1) (by (try dsimp only); omega) ⟨by (try dsimp only); omega, fun i hi => by
                  by_cases e : i = m
                  · rw [e, hbq, hbv]
                  · exact hgm i (by (try dsimp only at hi); omega)⟩ ⟨rfl, rfl, rfl, rfl, rfl, rfl, rfl, rfl, rfl, trivial⟩ (by (repeat (first | exact dt_end | (apply dt_cons; · (repeat (first | exact sel0 | apply selS | apply selApp))) | apply dt_skip | apply dt_both)))
              | skip
          · have hno : eqPs np nb w v = false := eqPs_no hlt (eqOne_pos hlm hbq)
            generalize posOf w k m = bw at b1 hbq
            generalize posOf v k m = bv at b2 hbq
            repeat' (first
              | apply aw_seq | apply aw_region | apply aw_ret | apply aw_skip | apply aw_exit | apply aw_block | apply es_nil
              | (apply es_pure hT; (iterate 4 exact rfl)) | (apply es_skip; (iterate 3 exact rfl)) | (apply es_skip0; (iterate 2 exact rfl))
              | (apply es_i64 hT; (iterate 4 exact rfl); (iterate 2 (first | omega | (dsimp only; omega))))
              | (apply aw_draw [] [] hmix; decide +kernel)
              | (apply es_callQ (hs := (b1 _ (by (intro c hc; (repeat (first | exact hc | apply List.mem_cons_of_mem | apply List.mem_append_right)))))); (iterate 7 exact rfl))
              | (apply es_callQ (hs := (b2.mono (by (intro c hc; (repeat (first | exact hc | apply List.mem_cons_of_mem | apply List.mem_append_right)))))); (iterate 7 exact rfl))
              | (apply es_load; (iterate 5 exact rfl); first | (apply ld_blk hT; exact rfl; exact rfl; (repeat (first | exact List.mem_cons_self | apply List.mem_cons_of_mem | apply List.mem_append_right)); exact rfl; exact rfl) | (apply ld_all hT; exact rfl; exact rfl; (repeat (first | exact List.mem_cons_self | apply List.mem_cons_of_mem | apply List.mem_append_right)); exact rfl))
              | (apply es_box; (iterate 5 exact rfl); intro _) | (apply es_alloc hT; (iterate 5 exact rfl); intro _)
              | (apply aw_condT; (iterate 2 exact rfl)) | (apply aw_condF; (iterate 2 exact rfl))
              | (apply es_case; exact rfl; all_goals intro hb; all_goals (fail_if_success (change true = true at hb)); all_goals (fail_if_success (change false = false at hb)); all_goals (try dsimp only at hb); all_goals (try simp only [hb]); all_goals (first | replace hb := of_decide_eq_true hb | replace hb := of_decide_eq_false hb | replace hb := bne_t hb | replace hb := bne_f hb | replace hb := eq_of_beq hb | replace hb := ne_of_beq_false hb | skip); all_goals (try (exfalso; omega)))
              | (apply aw_cond; exact rfl; all_goals intro hb; all_goals (try dsimp only at hb); all_goals (try simp only [hb]); all_goals (first | replace hb := of_decide_eq_true hb | replace hb := of_decide_eq_false hb | replace hb := bne_t hb | replace hb := bne_f hb | replace hb := eq_of_beq hb | replace hb := ne_of_beq_false hb | skip); all_goals (try (exfalso; omega))))
            all_goals first
              | (exfalso; omega)
              | (apply ret1; exact rfl; exact ⟨by rw [hno], dt_trans (show DropTo _ H1 by (repeat (first | exact dt_end | (apply dt_cons; · (repeat (first | exact sel0 | apply selS | apply selApp))) | apply dt_skip | apply dt_both))) hdr⟩)
              | skip
        · obtain rfl : m = nb := by omega
          have hd3 : decide ((m : Int) < (m : Int)) = false := by simp
          have hone : eqOne m w v k = true := eqOne_all (by rw [hc, hcv]) hgm
          repeat' (first
            | apply aw_seq | apply aw_region | apply aw_ret | apply aw_skip | apply aw_exit | apply aw_block | apply es_nil
            | (apply es_pure hT; (iterate 4 exact rfl)) | (apply es_skip; (iterate 3 exact rfl)) | (apply es_skip0; (iterate 2 exact rfl))
            | (apply es_i64 hT; (iterate 4 exact rfl); (iterate 2 (first | omega | (dsimp only; omega))))
            | (apply aw_draw [] [] hmix; decide +kernel)
            | (apply es_load; (iterate 5 exact rfl); first | (apply ld_blk hT; exact rfl; exact rfl; (repeat (first | exact List.mem_cons_self | apply List.mem_cons_of_mem | apply List.mem_append_right)); exact rfl; exact rfl) | (apply ld_all hT; exact rfl; exact rfl; (repeat (first | exact List.mem_cons_self | apply List.mem_cons_of_mem | apply List.mem_append_right)); exact rfl))
            | (apply es_box; (iterate 5 exact rfl); intro _) | (apply es_alloc hT; (iterate 5 exact rfl); intro _)
            | (apply aw_condT; (iterate 2 exact rfl)) | (apply aw_condF; (iterate 2 exact rfl))
            | (apply es_case; exact rfl; all_goals intro hb; all_goals (fail_if_success (change true = true at hb)); all_goals (fail_if_success (change false = false at hb)); all_goals (try dsimp only at hb); all_goals (try simp only [hb]); all_goals (first | replace hb := of_decide_eq_true hb | replace hb := of_decide_eq_false hb | replace hb := bne_t hb | replace hb := bne_f hb | replace hb := eq_of_beq hb | replace hb := ne_of_beq_false hb | skip); all_goals (try (exfalso; omega)))
            | (apply aw_cond; exact rfl; all_goals intro hb; all_goals (try dsimp only at hb); all_goals (try simp only [hb]); all_goals (first | replace hb := of_decide_eq_true hb | replace hb := of_decide_eq_false hb | replace hb := bne_t hb | replace hb := bne_f hb | replace hb := eq_of_beq hb | replace hb := ne_of_beq_false hb | skip); all_goals (try (exfalso; omega))))
          all_goals first
            | (exfalso; omega)
            | exact loopq_end (k + 1) (by (try dsimp only); omega) ⟨by (try dsimp only); omega, eqPs_step (np := np) hgd hone⟩ ⟨rfl, rfl, rfl, rfl, rfl, rfl, trivial⟩ (by (repeat (first | exact dt_end | (apply dt_cons; · (repeat (first | exact sel0 | apply selS | apply selApp))) | apply dt_skip | apply dt_both)))
            | skip
      · have hno : eqPs np nb w v = false := eqPs_no hlt (eqOne_cash hc)
        generalize cashOf w k = cw at c1 hc
        generalize cashOf v k = cv at c2 hc
        repeat' (first
          | apply aw_seq | apply aw_region | apply aw_ret | apply aw_skip | apply aw_exit | apply aw_block | apply es_nil
          | (apply es_pure hT; (iterate 4 exact rfl)) | (apply es_skip; (iterate 3 exact rfl)) | (apply es_skip0; (iterate 2 exact rfl))
          | (apply es_i64 hT; (iterate 4 exact rfl); (iterate 2 (first | omega | (dsimp only; omega))))
          | (apply aw_draw [] [] hmix; decide +kernel)
          | (apply es_callQ (hs := (c1 _ (by (intro c hc; (repeat (first | exact hc | apply List.mem_cons_of_mem | apply List.mem_append_right)))))); (iterate 7 exact rfl))
          | (apply es_callQ (hs := (c2.mono (by (intro c hc; (repeat (first | exact hc | apply List.mem_cons_of_mem | apply List.mem_append_right)))))); (iterate 7 exact rfl))
          | (apply es_load; (iterate 5 exact rfl); first | (apply ld_blk hT; exact rfl; exact rfl; (repeat (first | exact List.mem_cons_self | apply List.mem_cons_of_mem | apply List.mem_append_right)); exact rfl; exact rfl) | (apply ld_all hT; exact rfl; exact rfl; (repeat (first | exact List.mem_cons_self | apply List.mem_cons_of_mem | apply List.mem_append_right)); exact rfl))
          | (apply es_box; (iterate 5 exact rfl); intro _) | (apply es_alloc hT; (iterate 5 exact rfl); intro _)
          | (apply aw_condT; (iterate 2 exact rfl)) | (apply aw_condF; (iterate 2 exact rfl))
          | (apply es_case; exact rfl; all_goals intro hb; all_goals (fail_if_success (change true = true at hb)); all_goals (fail_if_success (change false = false at hb)); all_goals (try dsimp only at hb); all_goals (try simp only [hb]); all_goals (first | replace hb := of_decide_eq_true hb | replace hb := of_decide_eq_false hb | replace hb := bne_t hb | replace hb := bne_f hb | replace hb := eq_of_beq hb | replace hb := ne_of_beq_false hb | skip); all_goals (try (exfalso; omega)))
          | (apply aw_cond; exact rfl; all_goals intro hb; all_goals (try dsimp only at hb); all_goals (try simp only [hb]); all_goals (first | replace hb := of_decide_eq_true hb | replace hb := of_decide_eq_false hb | replace hb := bne_t hb | replace hb := bne_f hb | replace hb := eq_of_beq hb | replace hb := ne_of_beq_false hb | skip); all_goals (try (exfalso; omega))))
        all_goals first
          | (exfalso; omega)
          | (apply ret1; exact rfl; exact ⟨by rw [hno], dt_trans (show DropTo _ H1 by (repeat (first | exact dt_end | (apply dt_cons; · (repeat (first | exact sel0 | apply selS | apply selApp))) | apply dt_skip | apply dt_both))) hdr⟩)
          | skip
    · obtain rfl : k = np := by omega
      have hd2 : decide ((k : Int) < (k : Int)) = false := by simp
      repeat' (first
        | apply aw_seq | apply aw_region | apply aw_ret | apply aw_skip | apply aw_exit | apply aw_block | apply es_nil
        | (apply es_pure hT; (iterate 4 exact rfl)) | (apply es_skip; (iterate 3 exact rfl)) | (apply es_skip0; (iterate 2 exact rfl))
        | (apply es_i64 hT; (iterate 4 exact rfl); (iterate 2 (first | omega | (dsimp only; omega))))
        | (apply aw_draw [] [] hmix; decide +kernel)
        | (apply es_load; (iterate 5 exact rfl); first | (apply ld_blk hT; exact rfl; exact rfl; (repeat (first | exact List.mem_cons_self | apply List.mem_cons_of_mem | apply List.mem_append_right)); exact rfl; exact rfl) | (apply ld_all hT; exact rfl; exact rfl; (repeat (first | exact List.mem_cons_self | apply List.mem_cons_of_mem | apply List.mem_append_right)); exact rfl))
        | (apply es_box; (iterate 5 exact rfl); intro _) | (apply es_alloc hT; (iterate 5 exact rfl); intro _)
        | (apply aw_condT; (iterate 2 exact rfl)) | (apply aw_condF; (iterate 2 exact rfl))
        | (apply es_case; exact rfl; all_goals intro hb; all_goals (fail_if_success (change true = true at hb)); all_goals (fail_if_success (change false = false at hb)); all_goals (try dsimp only at hb); all_goals (try simp only [hb]); all_goals (first | replace hb := of_decide_eq_true hb | replace hb := of_decide_eq_false hb | replace hb := bne_t hb | replace hb := bne_f hb | replace hb := eq_of_beq hb | replace hb := ne_of_beq_false hb | skip); all_goals (try (exfalso; omega)))
        | (apply aw_cond; exact rfl; all_goals intro hb; all_goals (try dsimp only at hb); all_goals (try simp only [hb]); all_goals (first | replace hb := of_decide_eq_true hb | replace hb := of_decide_eq_false hb | replace hb := bne_t hb | replace hb := bne_f hb | replace hb := eq_of_beq hb | replace hb := ne_of_beq_false hb | skip); all_goals (try (exfalso; omega))))
      all_goals first
        | (exfalso; omega)
        | (apply ret1; exact rfl; exact ⟨by rw [eqPs_all hgd], dt_trans (show DropTo _ H1 by (repeat (first | exact dt_end | (apply dt_cons; · (repeat (first | exact sel0 | apply selS | apply selApp))) | apply dt_skip | apply dt_both))) hdr⟩)
        | skip
end Go.Proofs.Ytjcnaeengplcbaa

set_option linter.unusedSimpArgs false
set_option linter.unusedVariables false
namespace Go.Proofs.Ytjcnaeengplcbaa
open Go Go.Sl
attribute [local irreducible] AW ES EP Ld RetQ
set_option maxRecDepth 100000

theorem book_LevelsNil (W : World) (s : Int) : QSpec Try.prog W 35 [.pointer none, .int .i64 s] [] (.slice none 0 0) := by
  refine QSpec.ofD (fun h' hs => ?_)
  refine spec_body Try.func35 rfl rfl Try.results35 Try.ntmps35 rfl rfl ?_
  repeat' (first
    | apply aw_seq | apply aw_region | apply aw_ret | apply aw_skip | apply aw_exit | apply aw_block | apply es_nil
    | (apply es_pure hT; (iterate 4 exact rfl)) | (apply es_skip; (iterate 3 exact rfl)) | (apply es_skip0; (iterate 2 exact rfl))
    | (apply es_i64 hT; (iterate 4 exact rfl); (iterate 2 (first | omega | (dsimp only; omega))))
    | (apply aw_draw [] [] hmix; decide +kernel)
    | (apply es_callQ (hs := ((book_SideNil W s).mono (by simp))); (iterate 7 exact rfl))
    | (apply es_load; (iterate 5 exact rfl); first | (apply ld_blk hT; exact rfl; exact rfl; (repeat (first | exact List.mem_cons_self | apply List.mem_cons_of_mem | apply List.mem_append_right)); exact rfl; exact rfl) | (apply ld_all hT; exact rfl; exact rfl; (repeat (first | exact List.mem_cons_self | apply List.mem_cons_of_mem | apply List.mem_append_right)); exact rfl))
    | (apply es_box; (iterate 5 exact rfl); intro _) | (apply es_alloc hT; (iterate 5 exact rfl); intro _)
    | (apply aw_condT; (iterate 2 exact rfl)) | (apply aw_condF; (iterate 2 exact rfl))
    | (apply es_case; exact rfl; all_goals intro hb; all_goals (fail_if_success (change true = true at hb)); all_goals (fail_if_success (change false = false at hb)); all_goals (try dsimp only at hb); all_goals (try simp only [hb]); all_goals (first | replace hb := of_decide_eq_true hb | replace hb := of_decide_eq_false hb | replace hb := bne_t hb | replace hb := bne_f hb | replace hb := eq_of_beq hb | replace hb := ne_of_beq_false hb | skip); all_goals (try (exfalso; omega)))
    | (apply aw_cond; exact rfl; all_goals intro hb; all_goals (try dsimp only at hb); all_goals (try simp only [hb]); all_goals (first | replace hb := of_decide_eq_true hb | replace hb := of_decide_eq_false hb | replace hb := bne_t hb | replace hb := bne_f hb | replace hb := eq_of_beq hb | replace hb := ne_of_beq_false hb | skip); all_goals (try (exfalso; omega))))
  refine aw_loopD (α := Unit) (E := fun _ => [(5, .slice none 0 0), (12, .int .i64 0), (13, .int .i64 0)]) (H := fun _ => h') (μ := fun _ => 0) (S := fun _ => True) () trivial ⟨rfl, rfl, rfl, trivial⟩ (by (repeat (first | exact dt_end | (apply dt_cons; · (repeat (first | exact sel0 | apply selS | apply selApp))) | apply dt_skip | apply dt_both))) ?_
  intro _ _
  have hd1 : decide ((0 : Int) < 0) = false := by decide
  repeat' (first
    | apply aw_seq | apply aw_region | apply aw_ret | apply aw_skip | apply aw_exit | apply aw_block | apply es_nil
    | (apply es_pure hT; (iterate 4 exact rfl)) | (apply es_skip; (iterate 3 exact rfl)) | (apply es_skip0; (iterate 2 exact rfl))
    | (apply es_i64 hT; (iterate 4 exact rfl); (iterate 2 (first | omega | (dsimp only; omega))))
    | (apply aw_draw [] [] hmix; decide +kernel)
    | (apply es_load; (iterate 5 exact rfl); first | (apply ld_blk hT; exact rfl; exact rfl; (repeat (first | exact List.mem_cons_self | apply List.mem_cons_of_mem | apply List.mem_append_right)); exact rfl; exact rfl) | (apply ld_all hT; exact rfl; exact rfl; (repeat (first | exact List.mem_cons_self | apply List.mem_cons_of_mem | apply List.mem_append_right)); exact rfl))
    | (apply es_box; (iterate 5 exact rfl); intro _) | (apply es_alloc hT; (iterate 5 exact rfl); intro _)
    | (apply aw_condT; (iterate 2 exact rfl)) | (apply aw_condF; (iterate 2 exact rfl))
    | (apply es_case; exact rfl; all_goals intro hb; all_goals (fail_if_success (change true = true at hb)); all_goals (fail_if_success (change false = false at hb)); all_goals (try dsimp only at hb); all_goals (try simp only [hb]); all_goals (first | replace hb := of_decide_eq_true hb | replace hb := of_decide_eq_false hb | replace hb := bne_t hb | replace hb := bne_f hb | replace hb := eq_of_beq hb | replace hb := ne_of_beq_false hb | skip); all_goals (try (exfalso; omega)))
    | (apply aw_cond; exact rfl; all_goals intro hb; all_goals (try dsimp only at hb); all_goals (try simp only [hb]); all_goals (first | replace hb := of_decide_eq_true hb | replace hb := of_decide_eq_false hb | replace hb := bne_t hb | replace hb := bne_f hb | replace hb := eq_of_beq hb | replace hb := ne_of_beq_false hb | skip); all_goals (try (exfalso; omega))))
  all_goals first
    | (exfalso; omega)
    | (apply ret1; exact rfl; exact ⟨rfl, by (repeat (first | exact dt_end | (apply dt_cons; · (repeat (first | exact sel0 | apply selS | apply selApp))) | apply dt_skip | apply dt_both))⟩)
    | skip
theorem audit_UncrossedNil (W : World) : QSpec Try.prog W 14 [.pointer none] [] (.bool true) := by
  refine QSpec.ofD (fun h' hs => ?_)
  refine spec_body Try.func14 rfl rfl Try.results14 Try.ntmps14 rfl rfl ?_
  repeat' (first
    | apply aw_seq | apply aw_region | apply aw_ret | apply aw_skip | apply aw_exit | apply aw_block | apply es_nil
    | (apply es_pure hT; (iterate 4 exact rfl)) | (apply es_skip; (iterate 3 exact rfl)) | (apply es_skip0; (iterate 2 exact rfl))
    | (apply es_i64 hT; (iterate 4 exact rfl); (iterate 2 (first | omega | (dsimp only; omega))))
    | (apply aw_draw [] [] hmix; decide +kernel)
    | (apply es_callQ (hs := ((book_LevelsNil W _).mono (by simp))); (iterate 7 exact rfl))
    | (apply es_load; (iterate 5 exact rfl); first | (apply ld_blk hT; exact rfl; exact rfl; (repeat (first | exact List.mem_cons_self | apply List.mem_cons_of_mem | apply List.mem_append_right)); exact rfl; exact rfl) | (apply ld_all hT; exact rfl; exact rfl; (repeat (first | exact List.mem_cons_self | apply List.mem_cons_of_mem | apply List.mem_append_right)); exact rfl))
    | (apply es_box; (iterate 5 exact rfl); intro _) | (apply es_alloc hT; (iterate 5 exact rfl); intro _)
    | (apply aw_condT; (iterate 2 exact rfl)) | (apply aw_condF; (iterate 2 exact rfl))
    | (apply es_case; exact rfl; all_goals intro hb; all_goals (fail_if_success (change true = true at hb)); all_goals (fail_if_success (change false = false at hb)); all_goals (try dsimp only at hb); all_goals (try simp only [hb]); all_goals (first | replace hb := of_decide_eq_true hb | replace hb := of_decide_eq_false hb | replace hb := bne_t hb | replace hb := bne_f hb | replace hb := eq_of_beq hb | replace hb := ne_of_beq_false hb | skip); all_goals (try (exfalso; omega)))
    | (apply aw_cond; exact rfl; all_goals intro hb; all_goals (try dsimp only at hb); all_goals (try simp only [hb]); all_goals (first | replace hb := of_decide_eq_true hb | replace hb := of_decide_eq_false hb | replace hb := bne_t hb | replace hb := bne_f hb | replace hb := eq_of_beq hb | replace hb := ne_of_beq_false hb | skip); all_goals (try (exfalso; omega))))
  all_goals first
    | (exfalso; omega)
    | (apply ret1; exact rfl; exact ⟨rfl, by (repeat (first | exact dt_end | (apply dt_cons; · (repeat (first | exact sel0 | apply selS | apply selApp))) | apply dt_skip | apply dt_both))⟩)
    | skip
theorem lvReads {W : World} {h : List Chunk} {A : Option Addr} {c : Nat} {l : List Lvl} {n : Nat} (hm : Chunk.own A n c 87 2 (l.flatMap Lvl.enc) ∈ h) (hn : l.length = n) : Reads W h A n 2 (l.flatMap Lvl.enc) := Reads.enc Lvl.enc_len Lvl.enc_one hm hn
theorem audit_Uncrossed (W : World) (p : Nat) (A : Option Addr) (c : Nat) (l : List Order) (hB : BookB l) :
    QSpec Try.prog W 14 [.pointer (some ⟨p, 0, none⟩)] [.blk p 126 [.slice A l.length c], .own A l.length c 129 6 (l.flatMap Order.enc)] (.bool (headsB (levelsO (sideO 1 l)) (levelsO (sideO 2 l)))) := by
  refine QSpec.ofD (fun h' hs => ?_)
  have m1 := hs _ mem0
  have m2 := hs _ mem1
  have hL1 := fun h m1 m2 => book_Levels W h p A c l 1 m1 m2 hB.le hB.seq hB.side hB.left
  have hL2 := fun h m1 m2 => book_Levels W h p A c l 2 m1 m2 hB.le hB.seq hB.side hB.left
  generalize levelsO (sideO 1 l) = v1 at *
  generalize levelsO (sideO 2 l) = v2 at *
  refine spec_body Try.func14 rfl rfl Try.results14 Try.ntmps14 rfl rfl ?_
  rcases v1 with _ | ⟨x, v1⟩
  · repeat' (first
      | apply aw_seq | apply aw_region | apply aw_ret | apply aw_skip | apply aw_exit | apply aw_block | apply es_nil
      | (apply es_pure hT; (iterate 4 exact rfl)) | (apply es_skip; (iterate 3 exact rfl)) | (apply es_skip0; (iterate 2 exact rfl))
      | (apply es_i64 hT; (iterate 4 exact rfl); (iterate 2 (first | omega | (dsimp only; omega))))
      | (apply aw_draw [] [] hmix; decide +kernel)
      | (apply es_call (hs := (hL1 _ m1 m2)); (iterate 7 exact rfl); rintro _ _ ⟨A1, c1, rfl, rfl, ho1⟩)
      | (apply es_call (hs := (hL2 _ (.tail _ m1) (.tail _ m2))); (iterate 7 exact rfl); rintro _ _ ⟨A2, c2, rfl, rfl, ho2⟩)
      | (apply es_load; (iterate 5 exact rfl); first | (apply ld_blk hT; exact rfl; exact rfl; (repeat (first | exact List.mem_cons_self | apply List.mem_cons_of_mem | apply List.mem_append_right)); exact rfl; exact rfl) | (apply ld_all hT; exact rfl; exact rfl; (repeat (first | exact List.mem_cons_self | apply List.mem_cons_of_mem | apply List.mem_append_right)); exact rfl))
      | (apply es_box; (iterate 5 exact rfl); intro _) | (apply es_alloc hT; (iterate 5 exact rfl); intro _)
      | (apply aw_condT; (iterate 2 exact rfl)) | (apply aw_condF; (iterate 2 exact rfl))
      | (apply es_case; exact rfl; all_goals intro hb; all_goals (fail_if_success (change true = true at hb)); all_goals (fail_if_success (change false = false at hb)); all_goals (try dsimp only at hb); all_goals (try simp only [hb]); all_goals (first | replace hb := of_decide_eq_true hb | replace hb := of_decide_eq_false hb | replace hb := bne_t hb | replace hb := bne_f hb | replace hb := eq_of_beq hb | replace hb := ne_of_beq_false hb | skip); all_goals (try (exfalso; omega)))
      | (apply aw_cond; exact rfl; all_goals intro hb; all_goals (try dsimp only at hb); all_goals (try simp only [hb]); all_goals (first | replace hb := of_decide_eq_true hb | replace hb := of_decide_eq_false hb | replace hb := bne_t hb | replace hb := bne_f hb | replace hb := eq_of_beq hb | replace hb := ne_of_beq_false hb | skip); all_goals (try (exfalso; omega))))
    all_goals first
      | (exfalso; omega)
      | (apply ret1; exact rfl; exact ⟨rfl, by (repeat (first | exact dt_end | (apply dt_cons; · (repeat (first | exact sel0 | apply selS | apply selApp))) | apply dt_skip | apply dt_both))⟩)
      | skip
  · rcases v2 with _ | ⟨y, v2⟩
    · have hd0 : decide ((((x :: v1).length : Nat) : Int) = 0) = false := by simp; omega
      repeat' (first
        | apply aw_seq | apply aw_region | apply aw_ret | apply aw_skip | apply aw_exit | apply aw_block | apply es_nil
        | (apply es_pure hT; (iterate 4 exact rfl)) | (apply es_skip; (iterate 3 exact rfl)) | (apply es_skip0; (iterate 2 exact rfl))
        | (apply es_i64 hT; (iterate 4 exact rfl); (iterate 2 (first | omega | (dsimp only; omega))))
        | (apply aw_draw [] [] hmix; decide +kernel)
        | (apply es_call (hs := (hL1 _ m1 m2)); (iterate 7 exact rfl); rintro _ _ ⟨A1, c1, rfl, rfl, ho1⟩)
        | (apply es_call (hs := (hL2 _ (.tail _ m1) (.tail _ m2))); (iterate 7 exact rfl); rintro _ _ ⟨A2, c2, rfl, rfl, ho2⟩)
        | (apply es_load; (iterate 5 exact rfl); first | (apply ld_blk hT; exact rfl; exact rfl; (repeat (first | exact List.mem_cons_self | apply List.mem_cons_of_mem | apply List.mem_append_right)); exact rfl; exact rfl) | (apply ld_all hT; exact rfl; exact rfl; (repeat (first | exact List.mem_cons_self | apply List.mem_cons_of_mem | apply List.mem_append_right)); exact rfl))
        | (apply es_box; (iterate 5 exact rfl); intro _) | (apply es_alloc hT; (iterate 5 exact rfl); intro _)
        | (apply aw_condT; (iterate 2 exact rfl)) | (apply aw_condF; (iterate 2 exact rfl))
        | (apply es_case; exact rfl; all_goals intro hb; all_goals (fail_if_success (change true = true at hb)); all_goals (fail_if_success (change false = false at hb)); all_goals (try dsimp only at hb); all_goals (try simp only [hb]); all_goals (first | replace hb := of_decide_eq_true hb | replace hb := of_decide_eq_false hb | replace hb := bne_t hb | replace hb := bne_f hb | replace hb := eq_of_beq hb | replace hb := ne_of_beq_false hb | skip); all_goals (try (exfalso; omega)))
        | (apply aw_cond; exact rfl; all_goals intro hb; all_goals (try dsimp only at hb); all_goals (try simp only [hb]); all_goals (first | replace hb := of_decide_eq_true hb | replace hb := of_decide_eq_false hb | replace hb := bne_t hb | replace hb := bne_f hb | replace hb := eq_of_beq hb | replace hb := ne_of_beq_false hb | skip); all_goals (try (exfalso; omega))))
      all_goals first
        | (exfalso; simp only [List.length_cons] at *; omega)
        | (apply ret1; exact rfl; exact ⟨rfl, by (repeat (first | exact dt_end | (apply dt_cons; · (repeat (first | exact sel0 | apply selS | apply selApp))) | apply dt_skip | apply dt_both))⟩)
        | skip
    · have hx : (x :: v1)[(0 : Int).toNat]? = some x := rfl
      have hy : (y :: v2)[(0 : Int).toNat]? = some y := rfl
      have hlx : 0 < (x :: v1).length := by simp
      have hly : 0 < (y :: v2).length := by simp
      repeat' (first
        | apply aw_seq | apply aw_region | apply aw_ret | apply aw_skip | apply aw_exit | apply aw_block | apply es_nil
        | (apply es_pure hT; (iterate 4 exact rfl)) | (apply es_skip; (iterate 3 exact rfl)) | (apply es_skip0; (iterate 2 exact rfl))
        | (apply es_i64 hT; (iterate 4 exact rfl); (iterate 2 (first | omega | (dsimp only; omega))))
        | (apply aw_draw [] [] hmix; decide +kernel)
        | (apply es_call (hs := (hL1 _ m1 m2)); (iterate 7 exact rfl); rintro _ _ ⟨A1, c1, rfl, rfl, ho1⟩)
        | (apply es_call (hs := (hL2 _ (.tail _ m1) (.tail _ m2))); (iterate 7 exact rfl); rintro _ _ ⟨A2, c2, rfl, rfl, ho2⟩)
        | (apply es_idx hT; (iterate 8 exact rfl); (iterate 2 omega); first | exact ho1.some_ hlx | exact ho2.some_ hly)
        | (apply es_load; (iterate 5 exact rfl); first | exact ld_fld hT rfl rfl (lvReads (by (repeat (first | exact List.mem_cons_self | apply List.mem_cons_of_mem | apply List.mem_append_right))) rfl) Lvl.enc_len (adr_add _ _ _) hx (by decide) rfl | exact ld_fld hT rfl rfl (lvReads (by (repeat (first | exact List.mem_cons_self | apply List.mem_cons_of_mem | apply List.mem_append_right))) rfl) Lvl.enc_len (adr_add _ _ _) hy (by decide) rfl)
        | (apply es_load; (iterate 5 exact rfl); first | (apply ld_blk hT; exact rfl; exact rfl; (repeat (first | exact List.mem_cons_self | apply List.mem_cons_of_mem | apply List.mem_append_right)); exact rfl; exact rfl) | (apply ld_all hT; exact rfl; exact rfl; (repeat (first | exact List.mem_cons_self | apply List.mem_cons_of_mem | apply List.mem_append_right)); exact rfl))
        | (apply es_box; (iterate 5 exact rfl); intro _) | (apply es_alloc hT; (iterate 5 exact rfl); intro _)
        | (apply aw_condT; (iterate 2 exact rfl)) | (apply aw_condF; (iterate 2 exact rfl))
        | (apply es_case; exact rfl; all_goals intro hb; all_goals (fail_if_success (change true = true at hb)); all_goals (fail_if_success (change false = false at hb)); all_goals (try dsimp only at hb); all_goals (try simp only [hb]); all_goals (first | replace hb := of_decide_eq_true hb | replace hb := of_decide_eq_false hb | replace hb := bne_t hb | replace hb := bne_f hb | replace hb := eq_of_beq hb | replace hb := ne_of_beq_false hb | skip); all_goals (try (exfalso; omega)))
        | (apply aw_cond; exact rfl; all_goals intro hb; all_goals (try dsimp only at hb); all_goals (try simp only [hb]); all_goals (first | replace hb := of_decide_eq_true hb | replace hb := of_decide_eq_false hb | replace hb := bne_t hb | replace hb := bne_f hb | replace hb := eq_of_beq hb | replace hb := ne_of_beq_false hb | skip); all_goals (try (exfalso; omega))))
      all_goals first
        | (exfalso; simp only [List.length_cons] at *; omega)
        | (apply ret1; exact rfl; exact ⟨by simp [headsB, *], by (repeat (first | exact dt_end | (apply dt_cons; · (repeat (first | exact sel0 | apply selS | apply selApp))) | apply dt_skip | apply dt_both))⟩)
        | skip
end Go.Proofs.Ytjcnaeengplcbaa

set_option linter.unusedSimpArgs false
set_option linter.unusedVariables false
namespace Go.Proofs.Ytjcnaeengplcbaa
open Go Go.Sl
attribute [local irreducible] AW ES EP Ld RetQ
set_option maxRecDepth 100000

theorem deskTab_mem {x : DAd} {s : Dk} {bks : List BAd} {rows : List PRow} {F : List Chunk} : ∀ c ∈ deskTab x s bks rows [], c ∈ deskTab x s bks rows F := fun c hc => by
  unfold deskTab at *
  iterate 18 refine (List.mem_cons.1 hc).elim (fun e => e ▸ List.mem_cons_self) (fun hc => List.mem_cons_of_mem _ ?_)
  rw [List.append_nil] at hc
  rcases List.mem_append.1 hc with hc | hc
  · exact List.mem_append_left _ hc
  · exact List.mem_append_right _ (List.mem_append_left _ hc)
theorem deskTab_drop {x : DAd} {s : Dk} {bks : List BAd} {rows : List PRow} {F : List Chunk} : DropTo (deskTab x s bks rows F) F := by
  unfold deskTab
  iterate 18 apply dt_skip
  exact dt_app (dt_app dt_end)
theorem eqPs_refl (np nb : Nat) (p : Ps) : eqPs np nb p p = true := by
  unfold eqPs eqOne
  simp
theorem audit_DeskNil (W : World) (AB : Option Addr) (nb cB : Nat) (AP : Option Addr) (np cP : Nat) (look beat : Int) : QSpec Try.prog W 11 [rulesV AB nb cB AP np cP look beat, .pointer none] [] (.bool false) := by
  refine QSpec.ofD (fun h' hs => ?_)
  refine spec_body Try.func11 rfl rfl Try.results11 Try.ntmps11 rfl rfl ?_
  repeat' (first
    | apply aw_seq | apply aw_region | apply aw_ret | apply aw_skip | apply aw_exit | apply aw_block | apply es_nil
    | (apply es_pure hT; (iterate 4 exact rfl)) | (apply es_skip; (iterate 3 exact rfl)) | (apply es_skip0; (iterate 2 exact rfl))
    | (apply es_i64 hT; (iterate 4 exact rfl); (iterate 2 (first | omega | (dsimp only; omega))))
    | (apply aw_draw [] [] hmix; decide +kernel)
    | (apply es_box; (iterate 5 exact rfl); intro g2)
    | (apply es_load; (iterate 5 exact rfl); first | (apply ld_blk hT; exact rfl; exact rfl; (repeat (first | exact List.mem_cons_self | apply List.mem_cons_of_mem | apply List.mem_append_right)); exact rfl; exact rfl) | (apply ld_all hT; exact rfl; exact rfl; (repeat (first | exact List.mem_cons_self | apply List.mem_cons_of_mem | apply List.mem_append_right)); exact rfl))
    | (apply es_box; (iterate 5 exact rfl); intro _) | (apply es_alloc hT; (iterate 5 exact rfl); intro _)
    | (apply aw_condT; (iterate 2 exact rfl)) | (apply aw_condF; (iterate 2 exact rfl))
    | (apply es_case; exact rfl; all_goals intro hb; all_goals (fail_if_success (change true = true at hb)); all_goals (fail_if_success (change false = false at hb)); all_goals (try dsimp only at hb); all_goals (try simp only [hb]); all_goals (first | replace hb := of_decide_eq_true hb | replace hb := of_decide_eq_false hb | replace hb := bne_t hb | replace hb := bne_f hb | replace hb := eq_of_beq hb | replace hb := ne_of_beq_false hb | skip); all_goals (try (exfalso; omega)))
    | (apply aw_cond; exact rfl; all_goals intro hb; all_goals (try dsimp only at hb); all_goals (try simp only [hb]); all_goals (first | replace hb := of_decide_eq_true hb | replace hb := of_decide_eq_false hb | replace hb := bne_t hb | replace hb := bne_f hb | replace hb := eq_of_beq hb | replace hb := ne_of_beq_false hb | skip); all_goals (try (exfalso; omega))))
  all_goals first
    | (exfalso; omega)
    | (apply ret1; exact rfl; exact ⟨rfl, by (repeat (first | exact dt_end | (apply dt_cons; · (repeat (first | exact sel0 | apply selS | apply selApp))) | apply dt_skip | apply dt_both))⟩)
    | skip
set_option maxHeartbeats 2000000 in
theorem audit_DeskN (W : World) (h : List Chunk) (AB : Option Addr) (cB : Nat) (bs : List BondR) (AP : Option Addr) (cP : Nat) (ps : List PartyR) (look beat : Int) (hrB : Reads W h AB bs.length 7 (bs.flatMap BondR.enc)) (hrP : Reads W h AP ps.length 3 (ps.flatMap PartyR.enc)) (hR : isR bs ps look beat = true)
    (x : DAd) (s : Dk) (bks : List BAd) (rows : List PRow) (h1 : s.trades = []) (h2 : s.asks = []) (h3 : s.head = 0) (h4 : s.now = 0) (hps : psOf s.cash rows = zeroPs ps.length bs.length) (hbk : ∀ b ∈ bks, b.l = []) (hlb : bks.length = bs.length) (hls : s.books.length = bs.length)
    (hd : ∀ c ∈ deskTab x s bks rows [], c ∈ h) : QSpec Try.prog W 11 [rulesV AB bs.length cB AP ps.length cP look beat, ptrV x.d] h (.bool true) := by
  refine QSpec.ofD (fun h' hs => ?_)
  have hd' : ∀ c ∈ deskTab x s bks rows [], c ∈ h' := fun c hc => hs c (hd c hc)
  have hrB' := hrB.mono hs
  have hrP' := hrP.mono hs
  obtain ⟨⟨b1, b2⟩, ⟨p1, p2⟩, lk1, lk2⟩ := isR_len hR
  have hFI := (firm_Is W h' AB cB bs AP cP ps look beat hrB' hrP' (by omega) (by omega)).cast (u := .bool true) (by rw [hR])
  have md : Chunk.blk x.d 82 (deskCs x s) ∈ h' := hd' _ (by unfold deskTab; (repeat (first | exact List.mem_cons_self | apply List.mem_cons_of_mem | apply List.mem_append_right)))
  have mb : Chunk.blk x.b 123 [x.trades.sl s.trades.length, .int .u64 s.head] ∈ h' := hd' _ (by unfold deskTab; (repeat (first | exact List.mem_cons_self | apply List.mem_cons_of_mem | apply List.mem_append_right)))
  have mt : x.trades.own s.trades.length 96 8 (s.trades.flatMap TradeR.enc) ∈ h' := hd' _ (by unfold deskTab; (repeat (first | exact List.mem_cons_self | apply List.mem_cons_of_mem | apply List.mem_append_right)))
  have ma : Chunk.blk x.a 115 [x.asks.sl s.asks.length] ∈ h' := hd' _ (by unfold deskTab; (repeat (first | exact List.mem_cons_self | apply List.mem_cons_of_mem | apply List.mem_append_right)))
  have mas : x.asks.own s.asks.length 25 10 (s.asks.flatMap AskR.enc) ∈ h' := hd' _ (by unfold deskTab; (repeat (first | exact List.mem_cons_self | apply List.mem_cons_of_mem | apply List.mem_append_right)))
  have mbk : x.books.own s.books.length 50 1 (bks.map BAd.ptr) ∈ h' := hd' _ (by unfold deskTab; (repeat (first | exact List.mem_cons_self | apply List.mem_cons_of_mem | apply List.mem_append_right)))
  have mps : ∀ c ∈ posTab x.p x.cash.A x.cash.c x.pos.A x.pos.c s.cash rows [], c ∈ h' := fun c hc => by
    refine hd' c ?_
    unfold posTab at hc
    rw [List.append_nil] at hc
    rcases List.mem_cons.1 hc with rfl | hc
    · unfold deskTab; (repeat (first | exact List.mem_cons_self | apply List.mem_cons_of_mem | apply List.mem_append_right))
    rcases List.mem_cons.1 hc with rfl | hc
    · unfold deskTab; (repeat (first | exact List.mem_cons_self | apply List.mem_cons_of_mem | apply List.mem_append_right))
    rcases List.mem_cons.1 hc with rfl | hc
    · unfold deskTab; (repeat (first | exact List.mem_cons_self | apply List.mem_cons_of_mem | apply List.mem_append_right))
    unfold deskTab
    iterate 18 refine List.mem_cons_of_mem _ ?_
    exact List.mem_append_right _ (List.mem_append_left _ hc)
  have mck : ∀ b ∈ bks, ∀ c ∈ BAd.ck b, c ∈ h' := fun b hb c hc => by
    refine hd' c ?_
    unfold deskTab
    iterate 18 refine List.mem_cons_of_mem _ ?_
    exact List.mem_append_left _ (List.mem_flatMap.2 ⟨b, hb, hc⟩)
  have hPs := hps
  have hTr := fun k (hk : ∀ c ∈ h', c ∈ k) => desk_Trades W k x s (hk _ md) (hk _ mb) (hk _ mt) (by rw [h1]; simp)
  have hAs := fun k (hk : ∀ c ∈ h', c ∈ k) => desk_Asks W k x s (hk _ md) (hk _ ma) (hk _ mas) (by rw [h2]; simp)
  have hHd := fun k (hk : ∀ c ∈ h', c ∈ k) => (desk_Head W x s _).mono (h' := k) (mem2P (hk _ md) (hk _ mb))
  have hPo := fun k (hk : ∀ c ∈ h', c ∈ k) => (desk_Pos W x s).mono (h' := k) (mem1P (hk _ md))
  have hNo := fun k (hk : ∀ c ∈ h', c ∈ k) => (desk_Now W x s).mono (h' := k) (mem1P (hk _ md))
  have hSu := fun k (hk : ∀ c ∈ h', c ∈ k) A c => (audit_Sums W k ps.length bs.length ⟨by omega, by omega⟩ A c [] reads_nil (by simp) (fun t ht => by cases ht) x.p x.cash.A x.cash.c x.pos.A x.pos.c s.cash rows (by rw [hPs]; exact zeroPs_ok _ _) (fun c hc => hk _ (mps c hc))).cast (u := .bool true) (by rw [hPs]; unfold sumsV; dsimp only [putAll]; rw [eqPs_refl])
  have hEn := fun k A c => (audit_Ended W k A c [] s.now look reads_nil (by simp) (by unfold inW; omega) (fun a ha => by cases ha))
  have hBo := fun i b hi k (hk : ∀ c ∈ h', c ∈ k) => (desk_Book W x s bks i b (by omega) hi (by omega)).mono (h' := k) (mem2P (hk _ md) (hk _ mbk))
  have hUn := fun b (hb : b ∈ bks) k (hk : ∀ c ∈ h', c ∈ k) => (audit_Uncrossed W b.p b.s.A b.s.c b.l (by rw [hbk b hb]; exact BookB.nil)).mono (h' := k) (fun c hc => hk _ (mck b hb c hc))
  have hOn := fun A c A2 c2 => audit_Once0 W A c A2 c2
  have hHe := fun A c => blot_Heads0 W A c
  rw [h1] at hTr
  rw [h2] at hAs
  rw [h3] at hHd
  rw [h4] at hNo hEn
  simp only [List.length_nil, List.flatMap_nil] at hTr hAs hSu hEn
  clear hd hd' md mb mt ma mas mbk mps mck hps
  refine spec_body Try.func11 rfl rfl Try.results11 Try.ntmps11 rfl rfl ?_
  refine aw_reads hrB' rfl (fun hA => ?_)
  repeat' (first
    | apply aw_seq | apply aw_region | apply aw_ret | apply aw_skip | apply aw_exit | apply aw_block | apply es_nil
    | (apply es_pure hT; (iterate 4 exact rfl)) | (apply es_skip; (iterate 3 exact rfl)) | (apply es_skip0; (iterate 2 exact rfl))
    | (apply es_i64 hT; (iterate 4 exact rfl); (iterate 2 (first | omega | (dsimp only; omega))))
    | (apply aw_draw [] [] hmix; decide +kernel)
    | (apply es_box; (iterate 5 exact rfl); intro g2)
    | (apply es_callQ (hs := (hFI.mono (by (intro c hc; (repeat (first | exact hc | apply List.mem_cons_of_mem | apply List.mem_append_right)))))); (iterate 7 exact rfl))
    | (apply es_load; (iterate 5 exact rfl); first | (apply ld_blk hT; exact rfl; exact rfl; (repeat (first | exact List.mem_cons_self | apply List.mem_cons_of_mem | apply List.mem_append_right)); exact rfl; exact rfl) | (apply ld_all hT; exact rfl; exact rfl; (repeat (first | exact List.mem_cons_self | apply List.mem_cons_of_mem | apply List.mem_append_right)); exact rfl))
    | (apply es_box; (iterate 5 exact rfl); intro _) | (apply es_alloc hT; (iterate 5 exact rfl); intro _)
    | (apply aw_condT; (iterate 2 exact rfl)) | (apply aw_condF; (iterate 2 exact rfl))
    | (apply es_case; exact rfl; all_goals intro hb; all_goals (fail_if_success (change true = true at hb)); all_goals (fail_if_success (change false = false at hb)); all_goals (try dsimp only at hb); all_goals (try simp only [hb]); all_goals (first | replace hb := of_decide_eq_true hb | replace hb := of_decide_eq_false hb | replace hb := bne_t hb | replace hb := bne_f hb | replace hb := eq_of_beq hb | replace hb := ne_of_beq_false hb | skip); all_goals (try (exfalso; omega)))
    | (apply aw_cond; exact rfl; all_goals intro hb; all_goals (try dsimp only at hb); all_goals (try simp only [hb]); all_goals (first | replace hb := of_decide_eq_true hb | replace hb := of_decide_eq_false hb | replace hb := bne_t hb | replace hb := bne_f hb | replace hb := eq_of_beq hb | replace hb := ne_of_beq_false hb | skip); all_goals (try (exfalso; omega))))
  all_goals try (exfalso; omega)
  refine aw_loopD (α := Nat) (E := fun k => [(1, ptrV x.d), (2, .pointer (some ⟨g2, 0, none⟩)), (18, .int .i64 bs.length), (19, .int .i64 k)]) (H := fun _ => .blk g2 35 [.slice AB bs.length cB, .slice AP ps.length cP, .int .i64 look, .int .i64 beat] :: h') (μ := fun k => bs.length - k)
    (S := fun k => k ≤ bs.length) 0 (Nat.zero_le _) ⟨rfl, rfl, rfl, rfl, trivial⟩ (by (repeat (first | exact dt_end | (apply dt_cons; · (repeat (first | exact sel0 | apply selS | apply selApp))) | apply dt_skip | apply dt_both))) ?_
  intro k hk
  by_cases hlt : k < bs.length
  · obtain ⟨b, hbb⟩ : ∃ b, bks[k]? = some b := ⟨bks[k]'(by omega), List.getElem?_eq_getElem (by omega)⟩
    have hbm := List.mem_of_getElem? hbb
    have hU := fun k hk => (hUn b hbm k hk).cast (u := .bool true) (by rw [hbk b hbm]; rfl)
    have hd1 : decide ((k : Int) < (bs.length : Int)) = true := by simp; omega
    repeat' (first
      | apply aw_seq | apply aw_region | apply aw_ret | apply aw_skip | apply aw_exit | apply aw_block | apply es_nil
      | (apply es_pure hT; (iterate 4 exact rfl)) | (apply es_skip; (iterate 3 exact rfl)) | (apply es_skip0; (iterate 2 exact rfl))
      | (apply es_i64 hT; (iterate 4 exact rfl); (iterate 2 (first | omega | (dsimp only; omega))))
      | (apply aw_draw [] [] hmix; decide +kernel)
      | (apply es_callQ (hs := (hBo k b hbb _ (by (intro c hc; (repeat (first | exact hc | apply List.mem_cons_of_mem | apply List.mem_append_right)))))); (iterate 7 exact rfl))
      | (apply es_callQ (hs := (hU _ (by (intro c hc; (repeat (first | exact hc | apply List.mem_cons_of_mem | apply List.mem_append_right)))))); (iterate 7 exact rfl))
      | (apply es_load; (iterate 5 exact rfl); first | (apply ld_blk hT; exact rfl; exact rfl; (repeat (first | exact List.mem_cons_self | apply List.mem_cons_of_mem | apply List.mem_append_right)); exact rfl; exact rfl) | (apply ld_all hT; exact rfl; exact rfl; (repeat (first | exact List.mem_cons_self | apply List.mem_cons_of_mem | apply List.mem_append_right)); exact rfl))
      | (apply es_box; (iterate 5 exact rfl); intro _) | (apply es_alloc hT; (iterate 5 exact rfl); intro _)
      | (apply aw_condT; (iterate 2 exact rfl)) | (apply aw_condF; (iterate 2 exact rfl))
      | (apply es_case; exact rfl; all_goals intro hb; all_goals (fail_if_success (change true = true at hb)); all_goals (fail_if_success (change false = false at hb)); all_goals (try dsimp only at hb); all_goals (try simp only [hb]); all_goals (first | replace hb := of_decide_eq_true hb | replace hb := of_decide_eq_false hb | replace hb := bne_t hb | replace hb := bne_f hb | replace hb := eq_of_beq hb | replace hb := ne_of_beq_false hb | skip); all_goals (try (exfalso; omega)))
      | (apply aw_cond; exact rfl; all_goals intro hb; all_goals (try dsimp only at hb); all_goals (try simp only [hb]); all_goals (first | replace hb := of_decide_eq_true hb | replace hb := of_decide_eq_false hb | replace hb := bne_t hb | replace hb := bne_f hb | replace hb := eq_of_beq hb | replace hb := ne_of_beq_false hb | skip); all_goals (try (exfalso; omega))))
    all_goals first
      | (exfalso; omega)
      | exact loopq_end (k + 1) (by (try dsimp only); omega) (by (try dsimp only); omega) ⟨rfl, rfl, rfl, rfl, trivial⟩ (by (repeat (first | exact dt_end | (apply dt_cons; · (repeat (first | exact sel0 | apply selS | apply selApp))) | apply dt_skip | apply dt_both)))
      | skip
  · obtain rfl : k = bs.length := by omega
    have hd1 : decide ((bs.length : Int) < (bs.length : Int)) = false := by simp
    repeat' (first
      | apply aw_seq | apply aw_region | apply aw_ret | apply aw_skip | apply aw_exit | apply aw_block | apply es_nil
      | (apply es_pure hT; (iterate 4 exact rfl)) | (apply es_skip; (iterate 3 exact rfl)) | (apply es_skip0; (iterate 2 exact rfl))
      | (apply es_i64 hT; (iterate 4 exact rfl); (iterate 2 (first | omega | (dsimp only; omega))))
      | (apply aw_draw [] [] hmix; decide +kernel)
      | (apply aw_treeD [20, 22, 21, 23, 25, 5] [24] (.step 0 <| .step 1 <| .step 2 <| .step 3 <| .step 4 <| .step 5 <| .step 6 <| .step 7 <| .step 8 <| .step 9 <| .step 10 <| .step 11 <| .step 12 <| .step 13 <| .step 14 <| .step 15 <| .step 16 <| .step 17 <| .step 19 <| .step 18 <| .step 20 <| .step 21 <| .step 22 <| .step 23 <| .step 25 <| .step 27 <| .step 28 <| .step 24 <| .step 26 <| .step 29 <| .step 30 <| .step 31 <| .nil) hmix; decide +kernel) | apply ep_nil | apply ep_alt | (apply ep_step; exact rfl)
      | (apply es_call (hs := (hTr _ (by (intro c hc; (repeat (first | exact hc | apply List.mem_cons_of_mem | apply List.mem_append_right)))))); (iterate 7 exact rfl); rintro _ _ ⟨A6, c6, rfl, rfl⟩)
      | (apply es_callQ (hs := ((hHe _ _).mono (by simp))); (iterate 7 exact rfl))
      | (apply es_callQ (hs := (hHd _ (by (intro c hc; (repeat (first | exact hc | apply List.mem_cons_of_mem | apply List.mem_append_right)))))); (iterate 7 exact rfl))
      | (apply es_callQ (hs := (hPo _ (by (intro c hc; (repeat (first | exact hc | apply List.mem_cons_of_mem | apply List.mem_append_right)))))); (iterate 7 exact rfl))
      | (apply es_callQ (hs := (hSu _ (by (intro c hc; (repeat (first | exact hc | apply List.mem_cons_of_mem | apply List.mem_append_right)))) _ _)); (iterate 7 exact rfl))
      | (apply es_callA (hs := (hAs _ (by (intro c hc; (repeat (first | exact hc | apply List.mem_cons_of_mem | apply List.mem_append_right)))))); (iterate 7 exact rfl); (rintro _ _ ⟨A7, c7, rfl, rfl⟩; refine ⟨[_], rfl, ?_⟩))
      | (apply es_callQ (hs := ((hOn _ _ _ _).mono (by simp))); (iterate 7 exact rfl))
      | (apply es_callQ (hs := (hNo _ (by (intro c hc; (repeat (first | exact hc | apply List.mem_cons_of_mem | apply List.mem_append_right)))))); (iterate 7 exact rfl))
      | (apply es_callQ (hs := (hEn _ _ _)); (iterate 7 exact rfl))
      | (apply es_load; (iterate 5 exact rfl); first | (apply ld_blk hT; exact rfl; exact rfl; (repeat (first | exact List.mem_cons_self | apply List.mem_cons_of_mem | apply List.mem_append_right)); exact rfl; exact rfl) | (apply ld_all hT; exact rfl; exact rfl; (repeat (first | exact List.mem_cons_self | apply List.mem_cons_of_mem | apply List.mem_append_right)); exact rfl))
      | (apply es_box; (iterate 5 exact rfl); intro _) | (apply es_alloc hT; (iterate 5 exact rfl); intro _)
      | (apply aw_condT; (iterate 2 exact rfl)) | (apply aw_condF; (iterate 2 exact rfl))
      | (apply es_case; exact rfl; all_goals intro hb; all_goals (fail_if_success (change true = true at hb)); all_goals (fail_if_success (change false = false at hb)); all_goals (try dsimp only at hb); all_goals (try simp only [hb]); all_goals (first | replace hb := of_decide_eq_true hb | replace hb := of_decide_eq_false hb | replace hb := bne_t hb | replace hb := bne_f hb | replace hb := eq_of_beq hb | replace hb := ne_of_beq_false hb | skip); all_goals (try (exfalso; omega)))
      | (apply aw_cond; exact rfl; all_goals intro hb; all_goals (try dsimp only at hb); all_goals (try simp only [hb]); all_goals (first | replace hb := of_decide_eq_true hb | replace hb := of_decide_eq_false hb | replace hb := bne_t hb | replace hb := bne_f hb | replace hb := eq_of_beq hb | replace hb := ne_of_beq_false hb | skip); all_goals (try (exfalso; omega))))
    all_goals first
      | (exfalso; omega)
      | (apply ret1; exact rfl; exact ⟨rfl, by (repeat (first | exact dt_end | (apply dt_cons; · (repeat (first | exact sel0 | apply selS | apply selApp))) | apply dt_skip | apply dt_both))⟩)
      | skip
def ka27 : AskR := ⟨0, 0, 0, 0, 0, 0, 3, 0, 1, 0⟩
set_option maxHeartbeats 1000000 in
theorem known27 (W : World) : QSpec Try.prog W 7 [] [] (.bool true) := by
  refine QSpec.ofD (fun h' hs => ?_)
  have hR : isR [kb1, kb2] kps 3 50 = true := by decide +kernel
  have hr := fun k => rules_0 W k
  have hN := fun k g1 g2 (m1 : Chunk.own (some ⟨g1, 0, none⟩) 2 2 64 7 ([kb1, kb2].flatMap BondR.enc) ∈ k) (m2 : Chunk.own (some ⟨g2, 0, none⟩) 5 5 66 3 (kps.flatMap PartyR.enc) ∈ k) =>
    (desk_New W k (some ⟨g1, 0, none⟩) 2 [kb1, kb2] (some ⟨g2, 0, none⟩) 5 kps 3 50 (Reads.enc BondR.enc_len BondR.enc_one m1 rfl) (Reads.enc PartyR.enc_len PartyR.enc_one m2 rfl) (by decide) (by decide)).mono (R' := fun v h' => ∃ x bks rows, v = ptrV x.d ∧ h' = deskTab x (newDk [kb1, kb2] kps 3 50) bks rows k ∧ deskFits (newDk [kb1, kb2] kps 3 50) bks rows) (fun v h' hh => by
      rcases hh with ⟨a, _⟩ | ⟨_, a⟩
      · rw [hR] at a; cases a
      · exact a)
  have hD := fun k g1 g2 (m1 : Chunk.own (some ⟨g1, 0, none⟩) 2 2 64 7 ([kb1, kb2].flatMap BondR.enc) ∈ k) (m2 : Chunk.own (some ⟨g2, 0, none⟩) 5 5 66 3 (kps.flatMap PartyR.enc) ∈ k) x bks rows (hf : deskFits (newDk [kb1, kb2] kps 3 50) bks rows) (hk : ∀ c ∈ deskTab x (newDk [kb1, kb2] kps 3 50) bks rows [], c ∈ k) =>
    audit_DeskN W k (some ⟨g1, 0, none⟩) 2 [kb1, kb2] (some ⟨g2, 0, none⟩) 5 kps 3 50 (Reads.enc BondR.enc_len BondR.enc_one m1 rfl) (Reads.enc PartyR.enc_len PartyR.enc_one m2 rfl) hR x (newDk [kb1, kb2] kps 3 50) bks rows rfl rfl rfl rfl (by unfold psOf; rw [hf.2]; rfl) (fun b hb => by
      have h1 : b.l ∈ bks.map BAd.l := List.mem_map.2 ⟨b, hb, rfl⟩
      rw [hf.1] at h1
      exact (List.mem_replicate.1 h1).2) (by have h9 := congrArg List.length hf.1; rw [List.length_map] at h9; exact h9) rfl hk
  have hNil := fun g1 g2 => audit_DeskNil W (some ⟨g1, 0, none⟩) 2 2 (some ⟨g2, 0, none⟩) 5 5 3 50
  have hE := fun k g (m : Chunk.own (some ⟨g, 0, none⟩) 1 1 25 10 (ka27.enc) ∈ k) => (audit_Ended W k (some ⟨g, 0, none⟩) 1 [ka27] 5 2 (Reads.enc AskR.enc_len AskR.enc_one m rfl) (by decide) (by unfold inW; omega) (fun a ha => by
    rw [List.mem_singleton.1 ha]
    show inW 3 ∧ inW (3 + 2)
    unfold inW; omega)).cast (u := .bool false) (by rfl)
  refine spec_body Try.func7 rfl rfl Try.results7 Try.ntmps7 rfl rfl ?_
  repeat' (first
    | apply aw_seq | apply aw_region | apply aw_ret | apply aw_skip | apply aw_exit | apply aw_block | apply es_nil
    | (apply es_pure hT; (iterate 4 exact rfl)) | (apply es_skip; (iterate 3 exact rfl)) | (apply es_skip0; (iterate 2 exact rfl))
    | (apply es_i64 hT; (iterate 4 exact rfl); (iterate 2 (first | omega | (dsimp only; omega))))
    | (apply aw_draw [] [] hmix; decide +kernel)
    | (apply es_call (hs := (hr _)); (iterate 7 exact rfl); first | ((fail_if_success (have q := ga1)); rintro _ _ ⟨ga1, gb1, rfl, rfl⟩) | ((fail_if_success (have q := ga2)); rintro _ _ ⟨ga2, gb2, rfl, rfl⟩) | rintro _ _ ⟨ga3, gb3, rfl, rfl⟩)
    | (apply es_call (hs := (hN _ ga2 gb2 (by (repeat (first | exact List.mem_cons_self | apply List.mem_cons_of_mem | apply List.mem_append_right))) (by (repeat (first | exact List.mem_cons_self | apply List.mem_cons_of_mem | apply List.mem_append_right))))); (iterate 7 exact rfl); rintro _ _ ⟨x, bks, rows, rfl, rfl, hf⟩)
    | (apply es_callQ (hs := (hD _ ga1 gb1 (by (repeat (first | exact List.mem_cons_self | apply List.mem_cons_of_mem | apply List.mem_append_right))) (by (repeat (first | exact List.mem_cons_self | apply List.mem_cons_of_mem | apply List.mem_append_right))) x bks rows hf (by intro c hc; (repeat (first | exact deskTab_mem c hc | apply List.mem_cons_of_mem))))); (iterate 7 exact rfl))
    | (apply es_callQ (hs := ((hNil _ _).mono (by simp))); (iterate 7 exact rfl))
    | (apply es_callQ (hs := ((audit_UncrossedNil W).mono (by simp))); (iterate 7 exact rfl))
    | (apply es_buildS hT (cs := ka27.enc); (iterate 4 exact rfl))
    | (apply es_buildSlice hT; (iterate 12 exact rfl); intro g15)
    | (apply es_callQ (hs := (hE _ g15 (by (repeat (first | exact List.mem_cons_self | apply List.mem_cons_of_mem | apply List.mem_append_right))))); (iterate 7 exact rfl))
    | (apply es_load; (iterate 5 exact rfl); first | (apply ld_blk hT; exact rfl; exact rfl; (repeat (first | exact List.mem_cons_self | apply List.mem_cons_of_mem | apply List.mem_append_right)); exact rfl; exact rfl) | (apply ld_all hT; exact rfl; exact rfl; (repeat (first | exact List.mem_cons_self | apply List.mem_cons_of_mem | apply List.mem_append_right)); exact rfl))
    | (apply es_box; (iterate 5 exact rfl); intro _) | (apply es_alloc hT; (iterate 5 exact rfl); intro _)
    | (apply aw_condT; (iterate 2 exact rfl)) | (apply aw_condF; (iterate 2 exact rfl))
    | (apply es_case; exact rfl; all_goals intro hb; all_goals (fail_if_success (change true = true at hb)); all_goals (fail_if_success (change false = false at hb)); all_goals (try dsimp only at hb); all_goals (try simp only [hb]); all_goals (first | replace hb := of_decide_eq_true hb | replace hb := of_decide_eq_false hb | replace hb := bne_t hb | replace hb := bne_f hb | replace hb := eq_of_beq hb | replace hb := ne_of_beq_false hb | skip); all_goals (try (exfalso; omega)))
    | (apply aw_cond; exact rfl; all_goals intro hb; all_goals (try dsimp only at hb); all_goals (try simp only [hb]); all_goals (first | replace hb := of_decide_eq_true hb | replace hb := of_decide_eq_false hb | replace hb := bne_t hb | replace hb := bne_f hb | replace hb := eq_of_beq hb | replace hb := ne_of_beq_false hb | skip); all_goals (try (exfalso; omega))))
  all_goals first
    | (exfalso; omega)
    | (apply ret1; exact rfl; exact ⟨rfl, by (refine dt_trans ?_ (deskTab_drop (x := x) (s := newDk [kb1, kb2] kps 3 50) (bks := bks) (rows := rows)); (repeat (first | exact dt_end | (apply dt_cons; · (repeat (first | exact sel0 | apply selS | apply selApp))) | apply dt_skip | apply dt_both)))⟩)
    | skip
end Go.Proofs.Ytjcnaeengplcbaa

set_option linter.unusedSimpArgs false
set_option linter.unusedVariables false
namespace Go.Proofs.Ytjcnaeengplcbaa
open Go Go.Sl

/-! ### frames of one Seq are one -/
def oneF (a b : FrameR) : Prop := b.seq ≠ 0 → b.seq = a.seq → b = a
instance (a b : FrameR) : Decidable (oneF a b) := by unfold oneF; infer_instance
def steadyV (l : List FrameR) : Bool := decide (l.Pairwise oneF)
def mpF (l : List FrameR) : List (Int × Value) := l.foldl (fun m f => updI m f.seq (.agg f.msg.enc.toArray)) []
theorem mpF_add (l : List FrameR) (f : FrameR) : mpF (l ++ [f]) = updI (mpF l) f.seq (.agg f.msg.enc.toArray) := by simp [mpF, List.foldl_append]
theorem getI_upd : ∀ (m : List (Int × Value)) (n k : Int) (v : Value), getI (updI m n v) k = if k = n then some v else getI m k
  | [], n, k, v => by
    show (if (k == n) = true then some v else none) = _
    by_cases h : k = n <;> simp [h, getI]
  | (a, u) :: m, n, k, v => by
    unfold updI
    by_cases h1 : n = a
    · subst h1
      rw [if_pos (by simp)]
      by_cases h2 : k = n
      · subst h2; simp [getI]
      · simp [getI, h2]
    · rw [if_neg (by simpa using h1)]
      show (if (k == a) = true then some u else getI (updI m n v) k) = if k = n then some v else (if (k == a) = true then some u else getI m k)
      rw [getI_upd m n k v]
      by_cases h2 : k = a
      · subst h2
        have h3 : ¬ k = n := fun e => h1 e.symm
        simp [h3]
      · simp [h2]
/-- what the map holds of a Seq is the last frame's message -/
theorem mpF_get : ∀ (l : List FrameR) (s : Int), (getI (mpF l) s = none ∧ ∀ f ∈ l, f.seq ≠ s) ∨ ∃ f ∈ l, f.seq = s ∧ getI (mpF l) s = some (.agg f.msg.enc.toArray) ∧ (∃ i : Nat, l[i]? = some f ∧ ∀ (j : Nat) g, i < j → l[j]? = some g → g.seq ≠ s) := by
  intro l s
  obtain ⟨n, hn⟩ : ∃ n, l.length = n := ⟨_, rfl⟩
  induction n generalizing l with
  | zero =>
    obtain rfl := List.eq_nil_of_length_eq_zero hn
    exact .inl ⟨rfl, fun f hf => by cases hf⟩
  | succ n ih =>
    rcases List.eq_nil_or_concat l with rfl | ⟨u, z, rfl⟩
    · simp at hn
    · rw [List.concat_eq_append] at hn ⊢
      have hu : u.length = n := by simp at hn; omega
      rw [mpF_add, getI_upd]
      by_cases hs : s = z.seq
      · refine .inr ⟨z, by simp, hs.symm, by rw [if_pos hs], u.length, by simp, fun j g hj hg => ?_⟩
        have := (List.getElem?_eq_some_iff.1 hg).1
        simp at this; omega
      · rw [if_neg hs]
        rcases ih u hu with ⟨h1, h2⟩ | ⟨f, hf, h1, h2, i, hi, h3⟩
        · refine .inl ⟨h1, fun f hf => ?_⟩
          rcases List.mem_append.1 hf with h | h
          · exact h2 f h
          · rw [List.mem_singleton.1 h]; exact fun e => hs e.symm
        · have hil := (List.getElem?_eq_some_iff.1 hi).1
          refine .inr ⟨f, by simp [hf], h1, h2, i, by rw [List.getElem?_append_left hil]; exact hi, fun j g hj hg => ?_⟩
          by_cases hju : j < u.length
          · rw [List.getElem?_append_left hju] at hg; exact h3 j g hj hg
          · have hjl := (List.getElem?_eq_some_iff.1 hg).1
            have : j = u.length := by simp at hjl; omega
            subst this
            simp at hg
            rw [← hg]; exact fun e => hs e.symm
theorem steady_step {l : List FrameR} {k : Nat} {f : FrameR} (hf : l[k]? = some f) (hp : (l.take k).Pairwise oneF) :
    (∀ g ∈ l.take k, oneF g f) → (l.take (k + 1)).Pairwise oneF := fun h => by
  rw [List.take_add_one, hf]
  show (l.take k ++ [f]).Pairwise oneF
  rw [List.pairwise_append]
  exact ⟨hp, List.pairwise_singleton _ _, fun a ha b hb => by rw [List.mem_singleton.1 hb]; exact h a ha⟩
theorem steady_bad {l : List FrameR} {i k : Nat} {f g : FrameR} (hf : l[i]? = some f) (hg : l[k]? = some g) (hk : k < i) (h0 : f.seq ≠ 0) (he : f.seq = g.seq) (hne : f ≠ g) : steadyV l = false := by
  unfold steadyV
  rw [decide_eq_false]
  intro hp
  obtain ⟨hi, e1⟩ := List.getElem?_eq_some_iff.1 hf
  obtain ⟨hk', e2⟩ := List.getElem?_eq_some_iff.1 hg
  have := List.pairwise_iff_getElem.1 hp k i hk' hi hk
  rw [e1, e2] at this
  exact hne (this h0 he)
theorem enc_inj {a b : MsgR} (h : a.enc = b.enc) : a = b := by
  cases a; cases b
  simp [MsgR.enc] at h
  simp [h]
/-- the program's step: the last message of a Seq is the one that comes, so all of that Seq are -/
theorem steady_last {l : List FrameR} {k : Nat} {f : FrameR} (hf : l[k]? = some f) (hp : (l.take k).Pairwise oneF) (hs : f.seq = 0 ∨ getI (mpF (l.take k)) f.seq = none ∨ getI (mpF (l.take k)) f.seq = some (.agg f.msg.enc.toArray)) :
    (l.take (k + 1)).Pairwise oneF := by
  refine steady_step hf hp (fun g hg h0 he => ?_)
  rcases mpF_get (l.take k) f.seq with ⟨h1, h2⟩ | ⟨x, hx, h1, h2, i, hi, h3⟩
  · exact absurd he.symm (h2 g hg)
  · rcases hs with hs | hs | hs
    · exact absurd hs h0
    · rw [hs] at h2; cases h2
    · rw [hs] at h2
      have hm : f.msg = x.msg := enc_inj (by injection h2 with h2; injection h2 with h2; simpa using h2)
      have hfx : f = x := by
        cases f; cases x
        simp at h1 hm ⊢
        exact ⟨h1.symm, hm⟩
      obtain ⟨j, hj⟩ := List.getElem?_of_mem hg
      rcases Nat.lt_trichotomy j i with hji | hji | hji
      · obtain ⟨hjl, e1⟩ := List.getElem?_eq_some_iff.1 hj
        obtain ⟨hil, e2⟩ := List.getElem?_eq_some_iff.1 hi
        have := List.pairwise_iff_getElem.1 hp j i hjl hil hji
        rw [e1, e2] at this
        rw [hfx]
        exact this (by rw [← hfx]; exact h0) (by rw [← hfx]; exact he)
      · subst hji
        rw [hi] at hj
        injection hj with hj
        rw [hfx, hj]
      · exact absurd he.symm (h3 j g hji hj)
theorem steady_wrong {l : List FrameR} {k : Nat} {f : FrameR} {v : Value} (hf : l[k]? = some f) (h0 : f.seq ≠ 0) (hg : getI (mpF (l.take k)) f.seq = some v) (hne : v ≠ .agg f.msg.enc.toArray) : steadyV l = false := by
  rcases mpF_get (l.take k) f.seq with ⟨h1, h2⟩ | ⟨x, hx, h1, h2, i, hi, h3⟩
  · rw [h1] at hg; cases hg
  · rw [h2] at hg
    injection hg with hg
    have hik : i < k := by have := (List.getElem?_eq_some_iff.1 hi).1; simp at this; omega
    refine steady_bad hf (k := i) (g := x) (by rw [List.getElem?_take_of_lt hik] at hi; exact hi) hik h0 h1.symm (fun e => hne ?_)
    rw [← hg, e]

end Go.Proofs.Ytjcnaeengplcbaa

set_option linter.unusedSimpArgs false
set_option linter.unusedVariables false
namespace Go.Sl
open Go Go.RowKit

def eqFsT (f : TypeId → Value → Value → Option Bool) (T : Tab) (xs ys : List Value) : List Field → Option Bool
  | [] => some true
  | g :: fs => if g.name = "_" then none else
    match partV T g.type xs g.offset, partV T g.type ys g.offset with
    | some u, some v => match f g.type u v, eqFsT f T xs ys fs with
      | some a, some b => some (a && b)
      | _, _ => none
    | _, _ => none
def eqItT (f : Value → Value → Option Bool) (T : Tab) (e : TypeId) (c : Nat) (xs ys : List Value) : List Nat → Option Bool
  | [] => some true
  | i :: is => match partV T e xs (i * c), partV T e ys (i * c) with
    | some u, some v => match f u v, eqItT f T e c xs ys is with
      | some a, some b => some (a && b)
      | _, _ => none
    | _, _ => none
def eqT (T : Tab) (hd : List TypeId) : Nat → TypeId → Value → Value → Option Bool
  | 0, _, _, _ => none
  | n + 1, t, x, y => match T.lookup t with
    | some ⟨.int _, _, _, _⟩ => (match x, y with
      | .int k a, .int k' b => if k = k' then some (a == b) else none
      | _, _ => none)
    | some ⟨.bool, _, _, _⟩ => (match x, y with
      | .bool a, .bool b => some (a == b)
      | _, _ => none)
    | some ⟨.struct fs, _, _, _⟩ => (match x, y with
      | .agg xs, .agg ys => if hd.contains t then eqFsT (eqT T hd n) T xs.toList ys.toList fs.toList else none
      | _, _ => none)
    | some ⟨.array len e, _, _, _⟩ => (match x, y with
      | .agg xs, .agg ys => (match T.lookup e with
        | some te => eqItT (eqT T hd n e) T e te.size xs.toList ys.toList (List.range len)
        | none => none)
      | _, _ => none)
    | _ => none

section
variable {P : Program} {W : World} {T : Tab} {N : Nat} {env : Env} {h : List Chunk} {kf : KF} {ops : Array Oper} {K : Env → List Chunk → Prop} {rest : List Oper}

theorem eqFsT_run (hT : TabOK P T) {f : TypeId → Value → Value → Option Bool} {m : Nat} (hf : ∀ t x y b, f t x y = some b → ∀ w, (Op.equalIn m t x y).run P w = .ok b w) {xs ys : Array Value} :
    ∀ {fs : List Field} {b : Bool}, eqFsT f T xs.toList ys.toList fs = some b → ∀ w : World, (Op.eqFields m xs ys fs).run P w = .ok b w
  | [], b, he, w => by simp [eqFsT] at he; simp [Op.eqFields, he]
  | g :: fs, b, he, w => by
    unfold eqFsT at he
    split at he
    · cases he
    · rename_i hn
      split at he
      · rename_i u v hu hv
        split at he
        · rename_i a1 b1 h1 h2
          injection he with he
          subst he
          have h3 := hf _ _ _ _ h1 w
          have ih := eqFsT_run hT hf h2 w
          have p1 := part_run hT hu w
          have p2 := part_run hT hv w
          unfold Op.eqFields
          rw [if_pos hn]
          simp only [Sem.run_bind, p1, p2, Result.andThen_ok, h3]
          cases a1
          · simp
          · simp [ih]
        · cases he
      · cases he
theorem eqItT_run (hT : TabOK P T) {f : Value → Value → Option Bool} {m c : Nat} {e : TypeId} (hf : ∀ x y b, f x y = some b → ∀ w, (Op.equalIn m e x y).run P w = .ok b w) {xs ys : Array Value} :
    ∀ {is : List Nat} {b : Bool}, eqItT f T e c xs.toList ys.toList is = some b → ∀ w : World, (Op.eqItems m e c xs ys is).run P w = .ok b w
  | [], b, he, w => by simp [eqItT] at he; simp [Op.eqItems, he]
  | i :: is, b, he, w => by
    unfold eqItT at he
    split at he
    · rename_i u v hu hv
      split at he
      · rename_i a1 b1 h1 h2
        injection he with he
        subst he
        have h3 := hf _ _ _ h1 w
        have ih := eqItT_run hT hf h2 w
        have p1 := part_run hT hu w
        have p2 := part_run hT hv w
        unfold Op.eqItems
        simp only [Sem.run_bind, p1, p2, Result.andThen_ok, h3]
        cases a1
        · simp
        · simp [ih]
      · cases he
    · cases he
theorem eqT_run (hT : TabOK P T) {hd : List TypeId} (hs : ∀ t ∈ hd, P.stoodInHeld t = false) : ∀ (n : Nat) (t : TypeId) (x y : Value) (b : Bool), eqT T hd n t x y = some b → ∀ (d : Nat) (w : World), (Op.equalIn (d + n) t x y).run P w = .ok b w
  | 0, t, x, y, b, he, d, w => by simp [eqT] at he
  | n + 1, t, x, y, b, he, d, w => by
    unfold eqT at he
    split at he
    · rename_i k s bb z hl
      have g := (hT _ _ hl).und
      split at he
      · split at he
        · rename_i hk
          injection he with he
          subst he hk
          rw [show d + (n + 1) = (d + n) + 1 by omega, Op.equalIn]
          simp only [Sem.run_bind, g, Result.andThen_ok, if_true, Sem.run_pure]
        · cases he
      · cases he
    · rename_i s bb z hl
      have g := (hT _ _ hl).und
      split at he
      · injection he with he
        subst he
        rw [show d + (n + 1) = (d + n) + 1 by omega, Op.equalIn]
        simp only [Sem.run_bind, g, Result.andThen_ok, Sem.run_pure]
      · cases he
    · rename_i fs s bb z hl
      split at he
      · rename_i xs ys
        split at he
        · rename_i hc
          have hu : P.underlying t = some (.struct fs) := (hT _ _ hl).1
          have hf : P.fieldsOf t = fs := by simp [Program.fieldsOf, hu]
          rw [show d + (n + 1) = (d + n) + 1 by omega, run_equalIn_struct w (d + n) t xs ys (by rw [hf]; exact hu) (hs t (by simpa using hc)), hf]
          exact eqFsT_run hT (fun t x y b h w => eqT_run hT hs n t x y b h d w) he w
        · cases he
      · cases he
    · rename_i len e s bb z hl
      split at he
      · rename_i xs ys
        split at he
        · rename_i te hte
          have hu : P.underlying t = some (.array len e) := (hT _ _ hl).1
          obtain ⟨_, i, hi, h1, _⟩ := hT _ _ hte
          have hc : P.cellsOf e = te.size := by simp [Program.cellsOf, hi, h1]
          rw [show d + (n + 1) = (d + n) + 1 by omega, run_equalIn_array w (d + n) xs ys hu hi, hc]
          exact eqItT_run hT (fun x y b h w => eqT_run hT hs n e x y b h d w) he w
        · cases he
      · cases he
    · cases he

theorem es_neT (hT : TabOK P T) {b r : Bool} {n : Nat} {hd : List TypeId} {d : Tmp} {t yt : TypeId} {x y : Operand} {xs ys : Array Value} {ty pos af g} (hg : evalG ops env g = some b) (hb : b = true) (hd' : Nat.blt d N = true) (hx : evalE env x = some (.agg xs)) (hy : evalE env y = some (.agg ys)) (he : eqT T hd n t (.agg xs) (.agg ys) = some r) (hn : n ≤ 10000) (hs : ∀ t ∈ hd, P.stoodInHeld t = false) (hm : P.eqGuardType P.depth t = false)
    (hK : ES P W N kf ops rest ((d, .bool (!r)) :: env) h K) : ES P W N kf ops (⟨some d, .binOp .neq t x y yt, ty, pos, af, g⟩ :: rest) env h K :=
  es_run hg hb hd' (fun a ha w => by
    have h1 := eqT_run hT hs n t _ _ r he (10000 - n) w
    rw [show 10000 - n + n = 10000 by omega] at h1
    simp only [execOp, ha.eval hx, ha.eval hy, Sem.run_bind, run_eqGuard_agg w .neq t x y xs ys hm, Result.andThen_ok, run_neq_struct, h1, Sem.run_pure]) hK
end
end Go.Sl

set_option linter.unusedSimpArgs false
set_option linter.unusedVariables false
namespace Go.Proofs.Ytjcnaeengplcbaa
open Go Go.Sl
set_option maxRecDepth 100000

theorem sOKMsg : structOK Try.prog 43 := ⟨by kernel_rfl, by kernel_rfl⟩
def msgB (a b : MsgR) : Bool := (a.kind == b.kind) && (((a.f0 == b.f0) && ((a.f1 == b.f1) && ((a.f2 == b.f2) && ((a.f3 == b.f3) && ((a.f4 == b.f4) && ((a.f5 == b.f5) && true)))))) && true)
theorem msgB_eq (a b : MsgR) : msgB a b = decide (a = b) := by
  cases a; cases b
  unfold msgB
  rw [Bool.eq_iff_iff]
  simp only [Bool.and_eq_true, beq_iff_eq, decide_eq_true_eq, MsgR.mk.injEq, and_true]
theorem sOKFrame : structOK Try.prog 45 := ⟨by kernel_rfl, by kernel_rfl⟩
theorem heldFM : ∀ t ∈ [45, 43], Program.stoodInHeld Try.prog t = false := fun t ht => by
  rcases List.mem_cons.1 ht with rfl | ht
  · exact sOKFrame.1
  · rw [List.mem_singleton.1 ht]; exact sOKMsg.1
theorem eqMsgF (a b : MsgR) : eqT TT [45, 43] 4 43 (.agg a.enc.toArray) (.agg b.enc.toArray) = some (decide (a = b)) := by
  rw [← msgB_eq]; rfl
theorem eqFrame (a b : FrameR) : eqT TT [45, 43] 5 45 (.agg a.enc.toArray) (.agg b.enc.toArray) = some (decide (a = b)) := by
  have h : eqT TT [45, 43] 5 45 (.agg a.enc.toArray) (.agg b.enc.toArray) = some ((a.seq == b.seq) && (msgB a.msg b.msg && true)) := rfl
  rw [h, msgB_eq]
  cases a; cases b
  rw [Option.some.injEq, Bool.eq_iff_iff]
  simp only [Bool.and_eq_true, beq_iff_eq, decide_eq_true_eq, FrameR.mk.injEq, and_true]
end Go.Proofs.Ytjcnaeengplcbaa

