/- The statement's walk, and what it stands on, joined into few texts: part 3. Conditions stand in each statement. -/
import Derived.Maps.AppendAt
import Derived.Laws.CopyOwn
import Derived.Laws.MakeOwn
import Derived.Laws.StructEq
import Derived.Deep.Quiet
import Derived.Below
import Derived.Tactics
import Derived.IntWalk
import Derived.Lib.Overlaps
import Derived.Test.YtjcnaeengplcbaaGreatRows
import Derived.OpenShut
import Derived.ChangeSame
import Derived.ProofKit
import Derived.WideKeyArgs
import Derived.Deep.Slices
import Derived.Deep.Fields
import Derived.Test.YtjcnaeengplcbaaGreatChecked
import Derived.KernelRfl
import Derived.MapKept
import Derived.Shelf.SlSortCmp.NoneTotal
import Derived.Ground.SlsfProg
import Derived.WalkKit
import Derived.Sort.Grow
import Derived.Lib.Mul64
import Derived.Laws.Bits64b
import Derived.Test.YtjcnaeengplcbaaGreatBndBooks2
set_option linter.unusedSimpArgs false
set_option linter.unusedVariables false
namespace Go.Proofs.YtjcnaeengplcbaaGreat
open Go Go.Sl
attribute [local irreducible] AW ES Ld RetQ
set_option maxRecDepth 100000

theorem indexFuncOrder (W : World) (h : List Chunk) (A : Option Addr) (n c : Nat) (l : List Order) (hn : l.length = n) (hr : Reads W h A n 6 (l.flatMap Order.enc)) (fn : FuncId) (cap : List Value) (p : Order → Bool)
    (hf : ∀ x ∈ l, QSpec Tryz.prog W fn ([.agg x.enc.toArray] ++ cap) h (.bool (p x))) (hb : n ≤ 4611686018427387903) :
    QSpec Tryz.prog W 213 [.slice A n c, .func (.func fn) #[] cap.toArray] h (.int .i64 (idxOf p l)) := by
  refine QSpec.of (fun h' hs => ?_)
  have hr' := hr.mono hs
  refine spec_body Tryz.func213 rfl rfl Tryz.results213 Tryz.ntmps213 rfl rfl ?_
  refine aw_reads hr' rfl (fun hA => ?_)
  repeat' (first
    | apply aw_seq | apply aw_region | apply aw_ret | apply aw_skip | apply aw_exit | apply aw_block | apply es_nil
    | (apply es_pure hT; (iterate 4 exact rfl)) | (apply es_skip; (iterate 3 exact rfl)) | (apply es_skip0; (iterate 2 exact rfl))
    | (apply es_i64 hT; (iterate 4 exact rfl); (iterate 2 omega))
    | (apply aw_draw [] [] hmix; decide +kernel)
    | (apply es_load; (iterate 5 exact rfl); first | exact ld_blk hT rfl rfl mem0 rfl rfl | exact ld_all hT rfl rfl mem0 rfl)
    | (apply es_load; (iterate 5 exact rfl); first | exact ld_blk hT rfl rfl mem1 rfl rfl | exact ld_all hT rfl rfl mem1 rfl)
    | (apply es_load; (iterate 5 exact rfl); first | exact ld_blk hT rfl rfl mem2 rfl rfl | exact ld_all hT rfl rfl mem2 rfl)
    | (apply es_box; (iterate 5 exact rfl); intro _) | (apply es_alloc hT; (iterate 5 exact rfl); intro _)
    | (apply aw_condT; (iterate 2 exact rfl)) | (apply aw_condF; (iterate 2 exact rfl))
    | (apply es_case; exact rfl; all_goals intro hb; all_goals (try simp only [hb]); all_goals (first | replace hb := of_decide_eq_true hb | replace hb := of_decide_eq_false hb | replace hb := bne_t hb | replace hb := bne_f hb | skip); all_goals (try (exfalso; omega)))
    | (apply aw_cond; exact rfl; all_goals intro hb; all_goals (try simp only [hb]); all_goals (first | replace hb := of_decide_eq_true hb | replace hb := of_decide_eq_false hb | replace hb := bne_t hb | replace hb := bne_f hb | skip); all_goals (try (exfalso; omega))))
  refine aw_loop (α := Nat) (E := fun k => [(0, .slice A n c), (1, .func (.func fn) #[] cap.toArray), (7, .int .i64 n), (8, .int .i64 k)]) (H := fun _ => h') (μ := fun k => n - k)
    (S := fun k => k ≤ n ∧ ∀ (j : Nat) y, j < k → l[j]? = some y → p y = false) 0 (J := []) ⟨Nat.zero_le _, fun j y hj => by omega⟩ ⟨rfl, rfl, rfl, rfl, trivial⟩ (List.Perm.refl _) ?_
  rintro k ⟨hk1, hk2⟩
  by_cases hlt : k < n
  · obtain ⟨x, hx⟩ : ∃ x, l[k]? = some x := ⟨l[k]'(by omega), List.getElem?_eq_getElem (by omega)⟩
    have hx2 : l[(k : Int).toNat]? = some x := by simpa using hx
    have hfx := (hf x (List.mem_of_getElem? hx)).mono hs
    have hA' := hA (by omega)
    repeat' (first
      | apply aw_seq | apply aw_region | apply aw_ret | apply aw_skip | apply aw_exit | apply aw_block | apply es_nil
      | (apply es_pure hT; (iterate 4 exact rfl)) | (apply es_skip; (iterate 3 exact rfl)) | (apply es_skip0; (iterate 2 exact rfl))
      | (apply es_i64 hT; (iterate 4 exact rfl); (iterate 2 omega))
      | (apply aw_draw [] [] hmix; decide +kernel)
      | (apply es_idx hT; (iterate 8 exact rfl); (iterate 2 omega); exact hA')
      | (apply es_load; (iterate 5 exact rfl); exact ld_elem hT rfl rfl hr' Order.enc_len rfl hx2 rfl)
      | (apply es_callQ (hs := hfx); (iterate 7 exact rfl))
      | (apply es_load; (iterate 5 exact rfl); first | exact ld_blk hT rfl rfl mem0 rfl rfl | exact ld_all hT rfl rfl mem0 rfl)
      | (apply es_load; (iterate 5 exact rfl); first | exact ld_blk hT rfl rfl mem1 rfl rfl | exact ld_all hT rfl rfl mem1 rfl)
      | (apply es_load; (iterate 5 exact rfl); first | exact ld_blk hT rfl rfl mem2 rfl rfl | exact ld_all hT rfl rfl mem2 rfl)
      | (apply es_box; (iterate 5 exact rfl); intro _) | (apply es_alloc hT; (iterate 5 exact rfl); intro _)
      | (apply aw_condT; (iterate 2 exact rfl)) | (apply aw_condF; (iterate 2 exact rfl))
      | (apply es_case; exact rfl; all_goals intro hb; all_goals (try simp only [hb]); all_goals (first | replace hb := of_decide_eq_true hb | replace hb := of_decide_eq_false hb | replace hb := bne_t hb | replace hb := bne_f hb | skip); all_goals (try (exfalso; omega)))
      | (apply aw_cond; exact rfl; all_goals intro hb; all_goals (try simp only [hb]); all_goals (first | replace hb := of_decide_eq_true hb | replace hb := of_decide_eq_false hb | replace hb := bne_t hb | replace hb := bne_f hb | skip); all_goals (try (exfalso; omega))))
    · exact retQ1 (J := []) rfl (by rw [idxOf_at hx hb hk2]) (List.Perm.refl _)
    · have hpx := hb
      refine ⟨k + 1, [], by dsimp only; omega, ⟨by omega, fun j y hj hy => ?_⟩, ⟨rfl, rfl, rfl, rfl, trivial⟩, List.Perm.refl _⟩
      by_cases hjk : j < k
      · exact hk2 j y hjk hy
      · obtain rfl : j = k := by omega
        rw [hx] at hy; cases hy; exact hpx
  · repeat' (first
      | apply aw_seq | apply aw_region | apply aw_ret | apply aw_skip | apply aw_exit | apply aw_block | apply es_nil
      | (apply es_pure hT; (iterate 4 exact rfl)) | (apply es_skip; (iterate 3 exact rfl)) | (apply es_skip0; (iterate 2 exact rfl))
      | (apply es_i64 hT; (iterate 4 exact rfl); (iterate 2 omega))
      | (apply aw_draw [] [] hmix; decide +kernel)
      | (apply es_load; (iterate 5 exact rfl); first | exact ld_blk hT rfl rfl mem0 rfl rfl | exact ld_all hT rfl rfl mem0 rfl)
      | (apply es_load; (iterate 5 exact rfl); first | exact ld_blk hT rfl rfl mem1 rfl rfl | exact ld_all hT rfl rfl mem1 rfl)
      | (apply es_load; (iterate 5 exact rfl); first | exact ld_blk hT rfl rfl mem2 rfl rfl | exact ld_all hT rfl rfl mem2 rfl)
      | (apply es_box; (iterate 5 exact rfl); intro _) | (apply es_alloc hT; (iterate 5 exact rfl); intro _)
      | (apply aw_condT; (iterate 2 exact rfl)) | (apply aw_condF; (iterate 2 exact rfl))
      | (apply es_case; exact rfl; all_goals intro hb; all_goals (try simp only [hb]); all_goals (first | replace hb := of_decide_eq_true hb | replace hb := of_decide_eq_false hb | replace hb := bne_t hb | replace hb := bne_f hb | skip); all_goals (try (exfalso; omega)))
      | (apply aw_cond; exact rfl; all_goals intro hb; all_goals (try simp only [hb]); all_goals (first | replace hb := of_decide_eq_true hb | replace hb := of_decide_eq_false hb | replace hb := bne_t hb | replace hb := bne_f hb | skip); all_goals (try (exfalso; omega))))
    exact retQ1 (J := []) rfl (by rw [idxOf_none (fun (j : Nat) y hj => hk2 j y (by have := (List.getElem?_eq_some_iff.1 hj).1; omega) hj)]) (List.Perm.refl _)

theorem containsFuncOrder (W : World) (h : List Chunk) (A : Option Addr) (n c : Nat) (l : List Order) (hn : l.length = n) (hr : Reads W h A n 6 (l.flatMap Order.enc)) (fn : FuncId) (cap : List Value) (p : Order → Bool)
    (hf : ∀ x ∈ l, QSpec Tryz.prog W fn ([.agg x.enc.toArray] ++ cap) h (.bool (p x))) (hb : n ≤ 4611686018427387903) :
    QSpec Tryz.prog W 140 [.slice A n c, .func (.func fn) #[] cap.toArray] h (.bool (decide (idxOf p l ≥ 0))) := by
  refine QSpec.of (fun h' hs => ?_)
  refine spec_body Tryz.func140 rfl rfl Tryz.results140 Tryz.ntmps140 rfl rfl ?_
  repeat' (first
    | apply aw_seq | apply aw_region | apply aw_ret | apply aw_skip | apply aw_exit | apply aw_block | apply es_nil
    | (apply es_pure hT; (iterate 4 exact rfl)) | (apply es_skip; (iterate 3 exact rfl)) | (apply es_skip0; (iterate 2 exact rfl))
    | (apply es_i64 hT; (iterate 4 exact rfl); (iterate 2 omega))
    | (apply aw_draw [] [] hmix; decide +kernel)
    | (apply es_callQ (hs := ((indexFuncOrder W h A n c l hn hr fn cap p hf hb).mono hs)); (iterate 7 exact rfl))
    | (apply es_load; (iterate 5 exact rfl); first | exact ld_blk hT rfl rfl mem0 rfl rfl | exact ld_all hT rfl rfl mem0 rfl)
    | (apply es_load; (iterate 5 exact rfl); first | exact ld_blk hT rfl rfl mem1 rfl rfl | exact ld_all hT rfl rfl mem1 rfl)
    | (apply es_load; (iterate 5 exact rfl); first | exact ld_blk hT rfl rfl mem2 rfl rfl | exact ld_all hT rfl rfl mem2 rfl)
    | (apply es_box; (iterate 5 exact rfl); intro _) | (apply es_alloc hT; (iterate 5 exact rfl); intro _)
    | (apply aw_condT; (iterate 2 exact rfl)) | (apply aw_condF; (iterate 2 exact rfl))
    | (apply es_case; exact rfl; all_goals intro hb; all_goals (try simp only [hb]); all_goals (first | replace hb := of_decide_eq_true hb | replace hb := of_decide_eq_false hb | replace hb := bne_t hb | replace hb := bne_f hb | skip); all_goals (try (exfalso; omega)))
    | (apply aw_cond; exact rfl; all_goals intro hb; all_goals (try simp only [hb]); all_goals (first | replace hb := of_decide_eq_true hb | replace hb := of_decide_eq_false hb | replace hb := bne_t hb | replace hb := bne_f hb | skip); all_goals (try (exfalso; omega))))
  exact retQ1 (J := []) rfl rfl (List.Perm.refl _)

end Go.Proofs.YtjcnaeengplcbaaGreat

set_option linter.unusedSimpArgs false
set_option linter.unusedVariables false
namespace Go.Proofs.YtjcnaeengplcbaaGreat
open Go Go.Sl

/-! ### rows by an order -/
theorem ins_ord {α : Type} {p : α → α → Bool} {m : List α} {q : α} (h : m.Pairwise fun a b => p a b = true) (htr : ∀ a b c, p a b = true → p b c = true → p a c = true) (htot : ∀ x ∈ m, p x q = true ∨ p q x = true) {n : Nat} (hn : n = (m.takeWhile fun x => p x q).length) :
    (m.take n ++ [q] ++ m.drop n).Pairwise fun a b => p a b = true := by
  subst hn
  have hl : ∀ x ∈ m.take (m.takeWhile fun x => p x q).length, p x q = true := fun x hx => take_while_all (p := fun x => p x q) (l := m) x hx
  have hsplit : m.take (m.takeWhile fun x => p x q).length ++ m.drop (m.takeWhile fun x => p x q).length = m := List.take_append_drop _ _
  have hp := h
  rw [← hsplit, List.pairwise_append] at hp
  obtain ⟨p1, p2, p3⟩ := hp
  have hr : ∀ y ∈ m.drop (m.takeWhile fun x => p x q).length, p q y = true := fun y hy => by
    cases hm : m.drop (m.takeWhile fun x => p x q).length with
    | nil => rw [hm] at hy; cases hy
    | cons z r =>
      have hz := drop_while_head (p := fun x => p x q) (l := m) hm
      have hzl : z ∈ m := List.mem_of_mem_drop (by rw [hm]; simp)
      have hqz : p q z = true := by
        rcases htot z hzl with h | h
        · rw [hz] at h; cases h
        · exact h
      rw [hm] at hy p2
      rcases List.mem_cons.1 hy with rfl | hy
      · exact hqz
      · exact htr _ _ _ hqz (List.rel_of_pairwise_cons p2 hy)
  rw [List.append_assoc, List.pairwise_append]
  refine ⟨p1, ?_, fun x hx y hy => ?_⟩
  · rw [List.singleton_append, List.pairwise_cons]; exact ⟨hr, p2⟩
  · rw [List.singleton_append] at hy
    rcases List.mem_cons.1 hy with rfl | hy
    · exact hl x hx
    · exact p3 x hx y hy
theorem ord_eq {α : Type} {p : α → α → Bool} (has : ∀ x y, p x y = true → p y x = true → False) : ∀ {a b : List α}, a.Pairwise (fun x y => p x y = true) → b.Pairwise (fun x y => p x y = true) → a.Perm b → a = b
  | [], b, _, _, hp => by rw [List.nil_perm.1 hp]
  | x :: a, [], _, _, hp => by have := hp.length_eq; simp at this
  | x :: a, y :: b, ha, hb, hp => by
    rw [List.pairwise_cons] at ha hb
    have hxy : x = y := by
      rcases List.mem_cons.1 (hp.mem_iff.1 (List.mem_cons_self (a := x) (l := a))) with h | h
      · exact h
      · rcases List.mem_cons.1 (hp.mem_iff.2 (List.mem_cons_self (a := y) (l := b))) with h' | h'
        · exact h'.symm
        · exact (has _ _ (ha.1 y h') (hb.1 x h)).elim
    subst hxy
    rw [ord_eq has ha.2 hb.2 (List.Perm.cons_inv hp)]

/-! ### orders -/
def betterB (s a b : Int) : Bool := (s == 1 && decide (a > b)) || (s == 2 && decide (a < b))
def isB (s : Int) : Bool := s == 1 || s == 2
/-- which of a side is ahead -/
def aheadS (s : Int) (a b : Order) : Bool := if a.price = b.price then decide (a.seq < b.seq) else betterB s a.price b.price
theorem aheadS_tr {s : Int} (a b c : Order) (h1 : aheadS s a b = true) (h2 : aheadS s b c = true) : aheadS s a c = true := by
  unfold aheadS betterB at *
  split at h1 <;> split at h2 <;> split <;> simp at * <;> omega
theorem aheadS_as {s : Int} (a b : Order) (h1 : aheadS s a b = true) (h2 : aheadS s b a = true) : False := by
  unfold aheadS betterB at *
  split at h1 <;> split at h2 <;> simp at * <;> omega
theorem aheadS_tot {s : Int} (hs : isB s = true) (a b : Order) (h : a.seq ≠ b.seq) : aheadS s a b = true ∨ aheadS s b a = true := by
  unfold aheadS betterB isB at *
  simp at hs
  split <;> split <;> simp at * <;> omega

def cfO (a b : Order) : Int := if betterB a.side a.price b.price then -1 else if betterB a.side b.price a.price then 1 else cmpI a.seq b.seq
theorem cfO_ahead {s : Int} (hs : isB s = true) {a b : Order} (ha : a.side = s) (hb : b.side = s) : (cfO a b < 0) ↔ aheadS s a b = true := by
  unfold cfO aheadS betterB cmpI isB at *
  subst ha
  simp at hs
  by_cases hp : a.price = b.price
  · rw [if_pos hp, hp]
    simp
    split <;> (try split) <;> omega
  · rw [if_neg hp]
    constructor
    · intro h
      split at h
      · assumption
      · split at h
        · omega
        · rename_i h1 h2
          exfalso
          simp at h1 h2
          omega
    · intro h
      rw [if_pos h]; omega

def insO (s : Int) (out : List Order) (o : Order) : List Order := out.take (out.takeWhile fun x => aheadS s x o).length ++ [o] ++ out.drop (out.takeWhile fun x => aheadS s x o).length
def isSide (s : Int) (o : Order) : Bool := o.side == s
def sideO (s : Int) (l : List Order) : List Order := (l.filter (isSide s)).foldl (insO s) []
def uqSeq (l : List Order) : Prop := l.Pairwise fun a b => a.seq ≠ b.seq
theorem insO_perm (s : Int) (out : List Order) (o : Order) : (insO s out o).Perm (o :: out) := ins_perm out o _
theorem foldO_perm (s : Int) : ∀ (l out : List Order), (l.foldl (insO s) out).Perm (l ++ out)
  | [], out => List.Perm.refl _
  | x :: l, out => by
    rw [List.foldl_cons]
    exact (foldO_perm s l (insO s out x)).trans ((List.Perm.append_left l (insO_perm s out x)).trans List.perm_middle)
theorem uqSeq_perm {l r : List Order} (hp : r.Perm l) (h : uqSeq l) : uqSeq r := (hp.pairwise_iff (fun {a b} hab e => hab e.symm)).2 h
theorem foldO_up {s : Int} (hs : isB s = true) : ∀ (l out : List Order), uqSeq (l ++ out) → out.Pairwise (fun a b => aheadS s a b = true) → (l.foldl (insO s) out).Pairwise (fun a b => aheadS s a b = true)
  | [], out, _, h => h
  | x :: l, out, hu, h => by
    rw [List.foldl_cons]
    have hu2 : uqSeq (l ++ insO s out x) := by
      have hp : (x :: l ++ out).Perm (l ++ insO s out x) := List.perm_middle.symm.trans (List.Perm.append_left l (insO_perm s out x).symm)
      exact uqSeq_perm hp.symm hu
    refine foldO_up hs l (insO s out x) hu2 (ins_ord h (fun a b c => aheadS_tr a b c) (fun y hy => ?_) rfl)
    have hu3 : uqSeq (x :: (l ++ out)) := hu
    unfold uqSeq at hu3
    rw [List.pairwise_cons] at hu3
    exact aheadS_tot hs y x (fun e => hu3.1 y (List.mem_append_right _ hy) e.symm)
theorem sideO_perm (s : Int) (l : List Order) : (sideO s l).Perm (l.filter (isSide s)) := by
  have := foldO_perm s (l.filter (isSide s)) []
  rw [List.append_nil] at this; exact this
theorem sideO_up {s : Int} (hs : isB s = true) {l : List Order} (hu : uqSeq l) : (sideO s l).Pairwise (fun a b => aheadS s a b = true) :=
  foldO_up hs _ [] (by rw [List.append_nil]; exact hu.sublist List.filter_sublist) List.Pairwise.nil
theorem sideO_len (s : Int) (l : List Order) : (sideO s l).length ≤ l.length := by
  rw [(sideO_perm s l).length_eq]; exact List.length_filter_le _ _
theorem sideO_side {s : Int} {l : List Order} {o : Order} (h : o ∈ sideO s l) : o ∈ l ∧ o.side = s := by
  have := (sideO_perm s l).mem_iff.1 h
  rw [List.mem_filter] at this
  exact ⟨this.1, by simpa [isSide] using this.2⟩
/-- what the sort leaves is the side by its order -/
theorem side_sorted {s : Int} {l m : List Order} (hu : uqSeq l) (hv : ∀ o ∈ l, isB o.side = true) (hp : m.Perm (l.filter (isSide s))) (hs : m.Pairwise (fun a b => ¬ cfO b a < 0)) : m = sideO s l := by
  by_cases hb : isB s = true
  · refine ord_eq (p := aheadS s) (fun x y => aheadS_as x y) ?_ (sideO_up hb hu) (hp.trans (sideO_perm s l).symm)
    have hmu : uqSeq m := uqSeq_perm hp (hu.sublist List.filter_sublist)
    have hms : ∀ o ∈ m, o.side = s := fun o ho => by
      have := hp.mem_iff.1 ho
      rw [List.mem_filter] at this
      simpa [isSide] using this.2
    refine List.Pairwise.imp_of_mem (fun {a b} ha hb' hab => ?_) (hs.and hmu)
    rcases aheadS_tot hb a b hab.2 with h | h
    · exact h
    · exact absurd ((cfO_ahead hb (hms b hb') (hms a ha)).2 h) hab.1
  · have he : l.filter (isSide s) = [] := by
      rw [List.filter_eq_nil_iff]
      intro o ho hos
      have := hv o ho
      simp only [isSide, beq_iff_eq] at hos
      rw [hos] at this
      exact hb this
    rw [he] at hp
    rw [List.perm_nil.1 hp]
    unfold sideO; rw [he]; rfl

/-! ### levels -/
structure Lvl where
  price : Int
  qty : Int
  deriving DecidableEq
def Lvl.enc (v : Lvl) : List Value := [.int .i64 v.price, .int .i64 v.qty]
theorem Lvl.enc_len (v : Lvl) : v.enc.length = 2 := rfl
theorem Lvl.enc_one (v : Lvl) : ∀ x ∈ v.enc, x.oneCell' = true := List.all_eq_true.1 (rfl : v.enc.all Value.oneCell' = true)
def addLv (v : List Lvl) (o : Order) : List Lvl := match v.getLast? with
  | some x => if x.price = o.price then v.dropLast ++ [⟨x.price, x.qty + o.left⟩] else v ++ [⟨o.price, o.left⟩]
  | none => [⟨o.price, o.left⟩]
def levelsO (o : List Order) : List Lvl := o.foldl addLv []
theorem addLv_len (v : List Lvl) (o : Order) : (addLv v o).length ≤ v.length + 1 := by
  unfold addLv
  split
  · rename_i x hx
    have hne : v ≠ [] := fun e => by rw [e] at hx; cases hx
    split
    · simp
      (try (have := List.length_pos_iff.2 hne; omega))
    · simp
  · simp
theorem levelsO_add (o : List Order) (x : Order) : levelsO (o ++ [x]) = addLv (levelsO o) x := by simp [levelsO, List.foldl_append]
end Go.Proofs.YtjcnaeengplcbaaGreat

set_option linter.unusedSimpArgs false
set_option linter.unusedVariables false
namespace Go.Proofs.YtjcnaeengplcbaaGreat
open Go Go.Sl
attribute [local irreducible] AW ES EP Ld RetQ
set_option maxRecDepth 100000

def bookTab (p : Nat) (A : Option Addr) (c : Nat) (l : List Order) (F : List Chunk) : List Chunk :=
  .blk p 193 [.slice A l.length c] :: .own A l.length c 82 6 (l.flatMap Order.enc) :: F
theorem memPairB {x y : Chunk} {h : List Chunk} (hx : x ∈ h) (hy : y ∈ h) : ∀ c ∈ [x, y], c ∈ h := fun c hc => by
  rcases List.mem_cons.1 hc with rfl | hc
  · exact hx
  · rw [List.mem_singleton.1 hc]; exact hy

theorem book_New (W : World) (h : List Chunk) : FSpec Tryz.prog W 84 [] h (fun v h' => ∃ p A c, v = .pointer (some ⟨p, 0, none⟩) ∧ h' = bookTab p A c [] h) := by
  refine FSpec.conv (R := fun v h' => ∃ p, v = .pointer (some ⟨p, 0, none⟩) ∧ h' = .blk p 193 [.slice none 0 0] :: h) ?_ ?_
  · refine spec_body Tryz.func84 rfl rfl Tryz.results84 Tryz.ntmps84 rfl rfl ?_
    repeat' (first
      | apply aw_seq | apply aw_region | apply aw_ret | apply aw_skip | apply aw_exit | apply aw_block | apply es_nil
      | (apply es_pure hT; (iterate 4 exact rfl)) | (apply es_skip; (iterate 3 exact rfl)) | (apply es_skip0; (iterate 2 exact rfl))
      | (apply es_i64 hT; (iterate 4 exact rfl); (iterate 2 omega))
      | (apply aw_draw [] [] hmix; decide +kernel)
      | (apply es_build hT; (iterate 4 exact rfl))
      | (apply es_load; (iterate 5 exact rfl); first | exact ld_blk hT rfl rfl mem0 rfl rfl | exact ld_all hT rfl rfl mem0 rfl)
      | (apply es_load; (iterate 5 exact rfl); first | exact ld_blk hT rfl rfl mem1 rfl rfl | exact ld_all hT rfl rfl mem1 rfl)
      | (apply es_load; (iterate 5 exact rfl); first | exact ld_blk hT rfl rfl mem2 rfl rfl | exact ld_all hT rfl rfl mem2 rfl)
      | (apply es_box; (iterate 5 exact rfl); intro _) | (apply es_alloc hT; (iterate 5 exact rfl); intro _)
      | (apply aw_condT; (iterate 2 exact rfl)) | (apply aw_condF; (iterate 2 exact rfl))
      | (apply es_case; exact rfl; all_goals intro hb; all_goals (try simp only [hb]); all_goals (first | replace hb := of_decide_eq_true hb | replace hb := of_decide_eq_false hb | replace hb := bne_t hb | replace hb := bne_f hb | skip); all_goals (try (exfalso; omega)))
      | (apply aw_cond; exact rfl; all_goals intro hb; all_goals (try simp only [hb]); all_goals (first | replace hb := of_decide_eq_true hb | replace hb := of_decide_eq_false hb | replace hb := bne_t hb | replace hb := bne_f hb | skip); all_goals (try (exfalso; omega))))
    apply ret1; exact rfl
    exact ⟨_, rfl, rfl⟩
  · rintro v h' ⟨p, rfl, rfl⟩ w hw
    exact ⟨_, (hw.own_nil 82 6).perm sel1, p, none, 0, rfl, rfl⟩

theorem side_Is (W : World) (s : Int) : QSpec Tryz.prog W 212 [.int .i64 s] [] (.bool (isB s)) := by
  refine QSpec.ofD (fun h' hs => ?_)
  refine spec_body Tryz.func212 rfl rfl Tryz.results212 Tryz.ntmps212 rfl rfl ?_
  repeat' (first
    | apply aw_seq | apply aw_region | apply aw_ret | apply aw_skip | apply aw_exit | apply aw_block | apply es_nil
    | (apply es_pure hT; (iterate 4 exact rfl)) | (apply es_skip; (iterate 3 exact rfl)) | (apply es_skip0; (iterate 2 exact rfl))
    | (apply es_i64 hT; (iterate 4 exact rfl); (iterate 2 omega))
    | (apply aw_draw [] [] hmix; decide +kernel)
    | (apply es_load; (iterate 5 exact rfl); first | exact ld_blk hT rfl rfl mem0 rfl rfl | exact ld_all hT rfl rfl mem0 rfl)
    | (apply es_load; (iterate 5 exact rfl); first | exact ld_blk hT rfl rfl mem1 rfl rfl | exact ld_all hT rfl rfl mem1 rfl)
    | (apply es_load; (iterate 5 exact rfl); first | exact ld_blk hT rfl rfl mem2 rfl rfl | exact ld_all hT rfl rfl mem2 rfl)
    | (apply es_box; (iterate 5 exact rfl); intro _) | (apply es_alloc hT; (iterate 5 exact rfl); intro _)
    | (apply aw_condT; (iterate 2 exact rfl)) | (apply aw_condF; (iterate 2 exact rfl))
    | (apply es_case; exact rfl; all_goals intro hb; all_goals (try simp only [hb]); all_goals (first | replace hb := of_decide_eq_true hb | replace hb := of_decide_eq_false hb | replace hb := bne_t hb | replace hb := bne_f hb | skip); all_goals (try (exfalso; omega)))
    | (apply aw_cond; exact rfl; all_goals intro hb; all_goals (try simp only [hb]); all_goals (first | replace hb := of_decide_eq_true hb | replace hb := of_decide_eq_false hb | replace hb := bne_t hb | replace hb := bne_f hb | skip); all_goals (try (exfalso; omega))))
  all_goals
    apply ret1; exact rfl
    refine ⟨?_, dt_end⟩
    simp [isB, *]
def okO (o : Order) : Bool := decide (o.id ≥ 1) && decide (o.seq ≥ 1) && decide (o.price ≥ 1) && decide (o.price ≤ 1000000) && decide (o.left ≥ 1) && decide (o.left ≤ 1000000) && decide (o.owner ≥ 0) && isB o.side
theorem book_isOrder (W : World) (o : Order) : QSpec Tryz.prog W 139 [.agg o.enc.toArray] [] (.bool (okO o)) := by
  refine QSpec.ofD (fun h' hs => ?_)
  refine spec_body Tryz.func139 rfl rfl Tryz.results139 Tryz.ntmps139 rfl rfl ?_
  repeat' (first
    | apply aw_seq | apply aw_region | apply aw_ret | apply aw_skip | apply aw_exit | apply aw_block | apply es_nil
    | (apply es_pure hT; (iterate 4 exact rfl)) | (apply es_skip; (iterate 3 exact rfl)) | (apply es_skip0; (iterate 2 exact rfl))
    | (apply es_i64 hT; (iterate 4 exact rfl); (iterate 2 omega))
    | (apply aw_draw [] [] hmix; decide +kernel)
    | (apply es_callQ (hs := ((side_Is W _).mono (by simp))); (iterate 7 exact rfl))
    | (apply es_load; (iterate 5 exact rfl); first | exact ld_blk hT rfl rfl mem0 rfl rfl | exact ld_all hT rfl rfl mem0 rfl)
    | (apply es_load; (iterate 5 exact rfl); first | exact ld_blk hT rfl rfl mem1 rfl rfl | exact ld_all hT rfl rfl mem1 rfl)
    | (apply es_load; (iterate 5 exact rfl); first | exact ld_blk hT rfl rfl mem2 rfl rfl | exact ld_all hT rfl rfl mem2 rfl)
    | (apply es_box; (iterate 5 exact rfl); intro _) | (apply es_alloc hT; (iterate 5 exact rfl); intro _)
    | (apply aw_condT; (iterate 2 exact rfl)) | (apply aw_condF; (iterate 2 exact rfl))
    | (apply es_case; exact rfl; all_goals intro hb; all_goals (try simp only [hb]); all_goals (first | replace hb := of_decide_eq_true hb | replace hb := of_decide_eq_false hb | replace hb := bne_t hb | replace hb := bne_f hb | skip); all_goals (try (exfalso; omega)))
    | (apply aw_cond; exact rfl; all_goals intro hb; all_goals (try simp only [hb]); all_goals (first | replace hb := of_decide_eq_true hb | replace hb := of_decide_eq_false hb | replace hb := bne_t hb | replace hb := bne_f hb | skip); all_goals (try (exfalso; omega))))
  all_goals
    apply ret1; exact rfl
    refine ⟨?_, dt_skip dt_end⟩
    simp [okO, *]

def hasO (id : Int) (o : Order) : Bool := o.id == id
theorem book_Len (W : World) (p : Nat) (A : Option Addr) (c : Nat) (l : List Order) :
    QSpec Tryz.prog W 89 [.pointer (some ⟨p, 0, none⟩)] (bookTab p A c l []) (.int .i64 l.length) := by
  refine QSpec.ofD (fun h' hs => ?_)
  have m1 := hs _ mem0
  refine spec_body Tryz.func89 rfl rfl Tryz.results89 Tryz.ntmps89 rfl rfl ?_
  repeat' (first
    | apply aw_seq | apply aw_region | apply aw_ret | apply aw_skip | apply aw_exit | apply aw_block | apply es_nil
    | (apply es_pure hT; (iterate 4 exact rfl)) | (apply es_skip; (iterate 3 exact rfl)) | (apply es_skip0; (iterate 2 exact rfl))
    | (apply es_i64 hT; (iterate 4 exact rfl); (iterate 2 omega))
    | (apply aw_draw [] [] hmix; decide +kernel)
    | (apply es_load; (iterate 5 exact rfl); first | exact ld_blk hT rfl rfl mem0 rfl rfl | exact ld_all hT rfl rfl mem0 rfl)
    | (apply es_load; (iterate 5 exact rfl); first | exact ld_blk hT rfl rfl mem1 rfl rfl | exact ld_all hT rfl rfl mem1 rfl)
    | (apply es_load; (iterate 5 exact rfl); first | exact ld_blk hT rfl rfl mem2 rfl rfl | exact ld_all hT rfl rfl mem2 rfl)
    | (apply es_load; (iterate 5 exact rfl); first | exact ld_blk hT rfl rfl m1 rfl rfl | exact ld_all hT rfl rfl m1 rfl)
    | (apply es_load; (iterate 5 exact rfl); first | exact ld_blk hT rfl rfl (List.mem_cons_of_mem _ m1) rfl rfl | exact ld_all hT rfl rfl (List.mem_cons_of_mem _ m1) rfl)
    | (apply es_box; (iterate 5 exact rfl); intro _) | (apply es_alloc hT; (iterate 5 exact rfl); intro _)
    | (apply aw_condT; (iterate 2 exact rfl)) | (apply aw_condF; (iterate 2 exact rfl))
    | (apply es_case; exact rfl; all_goals intro hb; all_goals (try simp only [hb]); all_goals (first | replace hb := of_decide_eq_true hb | replace hb := of_decide_eq_false hb | replace hb := bne_t hb | replace hb := bne_f hb | skip); all_goals (try (exfalso; omega)))
    | (apply aw_cond; exact rfl; all_goals intro hb; all_goals (try simp only [hb]); all_goals (first | replace hb := of_decide_eq_true hb | replace hb := of_decide_eq_false hb | replace hb := bne_t hb | replace hb := bne_f hb | skip); all_goals (try (exfalso; omega))))
  apply ret1; exact rfl
  exact ⟨rfl, dt_end⟩

/-! ### Add -/
def clashO (o x : Order) : Bool := x.id == o.id || x.seq == o.seq
theorem book_Add1 (W : World) (x o : Order) (g1 : Nat) : QSpec Tryz.prog W 141 [.agg x.enc.toArray, .pointer (some ⟨g1, 0, none⟩)] [.blk g1 82 o.enc] (.bool (clashO o x)) := by
  refine QSpec.ofD (fun h' hs => ?_)
  have m1 := hs _ mem0
  refine spec_body Tryz.func141 rfl rfl Tryz.results141 Tryz.ntmps141 rfl rfl ?_
  repeat' (first
    | apply aw_seq | apply aw_region | apply aw_ret | apply aw_skip | apply aw_exit | apply aw_block | apply es_nil
    | (apply es_pure hT; (iterate 4 exact rfl)) | (apply es_skip; (iterate 3 exact rfl)) | (apply es_skip0; (iterate 2 exact rfl))
    | (apply es_i64 hT; (iterate 4 exact rfl); (iterate 2 omega))
    | (apply aw_draw [] [] hmix; decide +kernel)
    | (apply es_load; (iterate 5 exact rfl); first | exact ld_blk hT rfl rfl mem0 rfl rfl | exact ld_all hT rfl rfl mem0 rfl)
    | (apply es_load; (iterate 5 exact rfl); first | exact ld_blk hT rfl rfl mem1 rfl rfl | exact ld_all hT rfl rfl mem1 rfl)
    | (apply es_load; (iterate 5 exact rfl); first | exact ld_blk hT rfl rfl mem2 rfl rfl | exact ld_all hT rfl rfl mem2 rfl)
    | (apply es_load; (iterate 5 exact rfl); first | exact ld_blk hT rfl rfl m1 rfl rfl | exact ld_all hT rfl rfl m1 rfl)
    | (apply es_load; (iterate 5 exact rfl); first | exact ld_blk hT rfl rfl (List.mem_cons_of_mem _ m1) rfl rfl | exact ld_all hT rfl rfl (List.mem_cons_of_mem _ m1) rfl)
    | (apply es_box; (iterate 5 exact rfl); intro _) | (apply es_alloc hT; (iterate 5 exact rfl); intro _)
    | (apply aw_condT; (iterate 2 exact rfl)) | (apply aw_condF; (iterate 2 exact rfl))
    | (apply es_case; exact rfl; all_goals intro hb; all_goals (try simp only [hb]); all_goals (first | replace hb := of_decide_eq_true hb | replace hb := of_decide_eq_false hb | replace hb := bne_t hb | replace hb := bne_f hb | skip); all_goals (try (exfalso; omega)))
    | (apply aw_cond; exact rfl; all_goals intro hb; all_goals (try simp only [hb]); all_goals (first | replace hb := of_decide_eq_true hb | replace hb := of_decide_eq_false hb | replace hb := bne_t hb | replace hb := bne_f hb | skip); all_goals (try (exfalso; omega))))
  all_goals
    apply ret1; exact rfl
    refine ⟨?_, dt_skip dt_end⟩
    simp [clashO, *]
def addOE (o : Order) (l : List Order) : Int := if okO o = false ∨ idxOf (clashO o) l ≥ 0 then 1 else if l.length ≥ 64 then 3 else 0
def addO (o : Order) (l : List Order) : List Order := if addOE o l = 0 then l ++ [o] else l
theorem book_Add (W : World) (F : List Chunk) (p : Nat) (A : Option Addr) (c : Nat) (l : List Order) (o : Order) (hb : l.length ≤ 1000000) :
    FSpec Tryz.prog W 85 [.pointer (some ⟨p, 0, none⟩), .agg o.enc.toArray] (bookTab p A c l F) (fun v h' => v = .int .i64 (addOE o l) ∧ ∃ A' c', h' = bookTab p A' c' (addO o l) F) := by
  refine FSpec.dropTo ?_
  refine spec_body Tryz.func85 rfl rfl Tryz.results85 Tryz.ntmps85 rfl rfl ?_
  refine aw_fact (h := bookTab p A c l F) mem1 (fun hl hnc hcc hsome hnone hone => ?_)
  have hq : ∀ g1, QSpec Tryz.prog W 140 [.slice A l.length c, .func (.func 141) #[] #[.pointer (some ⟨g1, 0, none⟩)]] (.blk g1 82 o.enc :: bookTab p A c l F) (.bool (decide (idxOf (clashO o) l ≥ 0))) := fun g1 =>
    containsFuncOrder W _ A _ c l rfl (Reads.own mem2 hl hone) _ [_] (clashO o) (fun x _ => (book_Add1 W x o g1).mono (by intro c hc; simp only [List.mem_cons, List.not_mem_nil, or_false] at hc; rcases hc with rfl; simp)) (by omega)
  have hok : ∀ h, QSpec Tryz.prog W 139 [.agg o.enc.toArray] h (.bool (okO o)) := fun h => (book_isOrder W o).mono (by simp)
  cases hO : okO o
  · rw [hO] at hok
    have hE : addOE o l = 1 := by simp [addOE, hO]
    repeat' (first
      | apply aw_seq | apply aw_region | apply aw_ret | apply aw_skip | apply aw_exit | apply aw_block | apply es_nil
      | (apply es_pure hT; (iterate 4 exact rfl)) | (apply es_skip; (iterate 3 exact rfl)) | (apply es_skip0; (iterate 2 exact rfl))
      | (apply es_i64 hT; (iterate 4 exact rfl); (iterate 2 omega))
      | (apply aw_draw [] [] hmix; decide +kernel)
      | (apply es_callQ (hs := (hok _)); (iterate 7 exact rfl))
      | (apply es_load; (iterate 5 exact rfl); first | exact ld_blk hT rfl rfl mem0 rfl rfl | exact ld_all hT rfl rfl mem0 rfl)
      | (apply es_load; (iterate 5 exact rfl); first | exact ld_blk hT rfl rfl mem1 rfl rfl | exact ld_all hT rfl rfl mem1 rfl)
      | (apply es_load; (iterate 5 exact rfl); first | exact ld_blk hT rfl rfl mem2 rfl rfl | exact ld_all hT rfl rfl mem2 rfl)
      | (apply es_load; (iterate 5 exact rfl); first | exact ld_blk hT rfl rfl mem0 rfl rfl | exact ld_all hT rfl rfl mem0 rfl)
      | (apply es_load; (iterate 5 exact rfl); first | exact ld_blk hT rfl rfl (List.mem_cons_of_mem _ mem0) rfl rfl | exact ld_all hT rfl rfl (List.mem_cons_of_mem _ mem0) rfl)
      | (apply es_load; (iterate 5 exact rfl); first | exact ld_blk hT rfl rfl mem1 rfl rfl | exact ld_all hT rfl rfl mem1 rfl)
      | (apply es_load; (iterate 5 exact rfl); first | exact ld_blk hT rfl rfl (List.mem_cons_of_mem _ mem1) rfl rfl | exact ld_all hT rfl rfl (List.mem_cons_of_mem _ mem1) rfl)
      | (apply es_box; (iterate 5 exact rfl); intro _) | (apply es_alloc hT; (iterate 5 exact rfl); intro _)
      | (apply aw_condT; (iterate 2 exact rfl)) | (apply aw_condF; (iterate 2 exact rfl))
      | (apply es_case; exact rfl; all_goals intro hb; all_goals (try simp only [hb]); all_goals (first | replace hb := of_decide_eq_true hb | replace hb := of_decide_eq_false hb | replace hb := bne_t hb | replace hb := bne_f hb | skip); all_goals (try (exfalso; omega)))
      | (apply aw_cond; exact rfl; all_goals intro hb; all_goals (try simp only [hb]); all_goals (first | replace hb := of_decide_eq_true hb | replace hb := of_decide_eq_false hb | replace hb := bne_t hb | replace hb := bne_f hb | skip); all_goals (try (exfalso; omega))))
    apply ret1; exact rfl
    exact ⟨bookTab p A c l F, dt_skip dt_end, by rw [hE], A, c, by simp [addO, hE]⟩
  · rw [hO] at hok
    by_cases hI : idxOf (clashO o) l ≥ 0
    · have hE : addOE o l = 1 := by simp [addOE, hI]
      rw [decide_eq_true hI] at hq
      repeat' (first
        | apply aw_seq | apply aw_region | apply aw_ret | apply aw_skip | apply aw_exit | apply aw_block | apply es_nil
        | (apply es_pure hT; (iterate 4 exact rfl)) | (apply es_skip; (iterate 3 exact rfl)) | (apply es_skip0; (iterate 2 exact rfl))
        | (apply es_i64 hT; (iterate 4 exact rfl); (iterate 2 omega))
        | (apply aw_draw [] [] hmix; decide +kernel)
        | (apply es_callQ (hs := (hok _)); (iterate 7 exact rfl))
        | (apply es_callQ (hs := (hq _)); (iterate 7 exact rfl))
        | (apply es_load; (iterate 5 exact rfl); first | exact ld_blk hT rfl rfl mem0 rfl rfl | exact ld_all hT rfl rfl mem0 rfl)
        | (apply es_load; (iterate 5 exact rfl); first | exact ld_blk hT rfl rfl mem1 rfl rfl | exact ld_all hT rfl rfl mem1 rfl)
        | (apply es_load; (iterate 5 exact rfl); first | exact ld_blk hT rfl rfl mem2 rfl rfl | exact ld_all hT rfl rfl mem2 rfl)
        | (apply es_load; (iterate 5 exact rfl); first | exact ld_blk hT rfl rfl mem0 rfl rfl | exact ld_all hT rfl rfl mem0 rfl)
        | (apply es_load; (iterate 5 exact rfl); first | exact ld_blk hT rfl rfl (List.mem_cons_of_mem _ mem0) rfl rfl | exact ld_all hT rfl rfl (List.mem_cons_of_mem _ mem0) rfl)
        | (apply es_load; (iterate 5 exact rfl); first | exact ld_blk hT rfl rfl mem1 rfl rfl | exact ld_all hT rfl rfl mem1 rfl)
        | (apply es_load; (iterate 5 exact rfl); first | exact ld_blk hT rfl rfl (List.mem_cons_of_mem _ mem1) rfl rfl | exact ld_all hT rfl rfl (List.mem_cons_of_mem _ mem1) rfl)
        | (apply es_box; (iterate 5 exact rfl); intro _) | (apply es_alloc hT; (iterate 5 exact rfl); intro _)
        | (apply aw_condT; (iterate 2 exact rfl)) | (apply aw_condF; (iterate 2 exact rfl))
        | (apply es_case; exact rfl; all_goals intro hb; all_goals (try simp only [hb]); all_goals (first | replace hb := of_decide_eq_true hb | replace hb := of_decide_eq_false hb | replace hb := bne_t hb | replace hb := bne_f hb | skip); all_goals (try (exfalso; omega)))
        | (apply aw_cond; exact rfl; all_goals intro hb; all_goals (try simp only [hb]); all_goals (first | replace hb := of_decide_eq_true hb | replace hb := of_decide_eq_false hb | replace hb := bne_t hb | replace hb := bne_f hb | skip); all_goals (try (exfalso; omega))))
      apply ret1; exact rfl
      exact ⟨bookTab p A c l F, dt_skip dt_end, by rw [hE], A, c, by simp [addO, hE]⟩
    · rw [decide_eq_false hI] at hq
      by_cases hM : l.length ≥ 64
      · have hE : addOE o l = 3 := by simp [addOE, hO, hI, hM]
        have hd : decide (((l.length : Nat) : Int) ≥ 64) = true := by simp; omega
        repeat' (first
          | apply aw_seq | apply aw_region | apply aw_ret | apply aw_skip | apply aw_exit | apply aw_block | apply es_nil
          | (apply es_pure hT; (iterate 4 exact rfl)) | (apply es_skip; (iterate 3 exact rfl)) | (apply es_skip0; (iterate 2 exact rfl))
          | (apply es_i64 hT; (iterate 4 exact rfl); (iterate 2 omega))
          | (apply aw_draw [] [] hmix; decide +kernel)
          | (apply es_callQ (hs := (hok _)); (iterate 7 exact rfl))
          | (apply es_callQ (hs := (hq _)); (iterate 7 exact rfl))
          | (apply es_load; (iterate 5 exact rfl); first | exact ld_blk hT rfl rfl mem0 rfl rfl | exact ld_all hT rfl rfl mem0 rfl)
          | (apply es_load; (iterate 5 exact rfl); first | exact ld_blk hT rfl rfl mem1 rfl rfl | exact ld_all hT rfl rfl mem1 rfl)
          | (apply es_load; (iterate 5 exact rfl); first | exact ld_blk hT rfl rfl mem2 rfl rfl | exact ld_all hT rfl rfl mem2 rfl)
          | (apply es_load; (iterate 5 exact rfl); first | exact ld_blk hT rfl rfl mem0 rfl rfl | exact ld_all hT rfl rfl mem0 rfl)
          | (apply es_load; (iterate 5 exact rfl); first | exact ld_blk hT rfl rfl (List.mem_cons_of_mem _ mem0) rfl rfl | exact ld_all hT rfl rfl (List.mem_cons_of_mem _ mem0) rfl)
          | (apply es_load; (iterate 5 exact rfl); first | exact ld_blk hT rfl rfl mem1 rfl rfl | exact ld_all hT rfl rfl mem1 rfl)
          | (apply es_load; (iterate 5 exact rfl); first | exact ld_blk hT rfl rfl (List.mem_cons_of_mem _ mem1) rfl rfl | exact ld_all hT rfl rfl (List.mem_cons_of_mem _ mem1) rfl)
          | (apply es_box; (iterate 5 exact rfl); intro _) | (apply es_alloc hT; (iterate 5 exact rfl); intro _)
          | (apply aw_condT; (iterate 2 exact rfl)) | (apply aw_condF; (iterate 2 exact rfl))
          | (apply es_case; exact rfl; all_goals intro hb; all_goals (try simp only [hb]); all_goals (first | replace hb := of_decide_eq_true hb | replace hb := of_decide_eq_false hb | replace hb := bne_t hb | replace hb := bne_f hb | skip); all_goals (try (exfalso; omega)))
          | (apply aw_cond; exact rfl; all_goals intro hb; all_goals (try simp only [hb]); all_goals (first | replace hb := of_decide_eq_true hb | replace hb := of_decide_eq_false hb | replace hb := bne_t hb | replace hb := bne_f hb | skip); all_goals (try (exfalso; omega))))
        apply ret1; exact rfl
        exact ⟨bookTab p A c l F, dt_skip dt_end, by rw [hE], A, c, by simp [addO, hE]⟩
      · have hE : addOE o l = 0 := by simp [addOE, hO, hI, hM]
        have hA : addO o l = l ++ [o] := by simp [addO, hE]
        have hd : decide (((l.length : Nat) : Int) ≥ 64) = false := by simp; omega
        repeat' (first
          | apply aw_seq | apply aw_region | apply aw_ret | apply aw_skip | apply aw_exit | apply aw_block | apply es_nil
          | (apply es_pure hT; (iterate 4 exact rfl)) | (apply es_skip; (iterate 3 exact rfl)) | (apply es_skip0; (iterate 2 exact rfl))
          | (apply es_i64 hT; (iterate 4 exact rfl); (iterate 2 omega))
          | (apply aw_draw [] [] hmix; decide +kernel)
          | (apply es_callQ (hs := (hok _)); (iterate 7 exact rfl))
          | (apply es_callQ (hs := (hq _)); (iterate 7 exact rfl))
          | (apply es_buildSlice hT; (iterate 12 exact rfl); intro g)
          | (apply es_append hT; (iterate 10 exact rfl); (first | exact sel0 | exact sel1 | exact selS sel1 | exact selS (selS sel1) | exact selS (selS (selS sel1)) | exact selS (selS (selS (selS sel1))) | exact selS (selS (selS (selS (selS sel1)))) | exact selS (selS (selS (selS (selS (selS sel1)))))); exact Reads.own mem0 rfl (Order.enc_one o); omega; (show (_ : Nat) * 48 ≤ _; omega); intro A' c')
          | (apply es_store hT; (iterate 6 exact rfl); (first | exact sel0 | exact sel1 | exact selS sel1 | exact selS (selS sel1) | exact selS (selS (selS sel1)) | exact selS (selS (selS (selS sel1))) | exact selS (selS (selS (selS (selS sel1)))) | exact selS (selS (selS (selS (selS (selS sel1)))))); (iterate 3 exact rfl); exact Nat.le_of_ble_eq_true rfl)
          | (apply es_load; (iterate 5 exact rfl); first | exact ld_blk hT rfl rfl mem0 rfl rfl | exact ld_all hT rfl rfl mem0 rfl)
          | (apply es_load; (iterate 5 exact rfl); first | exact ld_blk hT rfl rfl mem1 rfl rfl | exact ld_all hT rfl rfl mem1 rfl)
          | (apply es_load; (iterate 5 exact rfl); first | exact ld_blk hT rfl rfl mem2 rfl rfl | exact ld_all hT rfl rfl mem2 rfl)
          | (apply es_load; (iterate 5 exact rfl); first | exact ld_blk hT rfl rfl mem0 rfl rfl | exact ld_all hT rfl rfl mem0 rfl)
          | (apply es_load; (iterate 5 exact rfl); first | exact ld_blk hT rfl rfl (List.mem_cons_of_mem _ mem0) rfl rfl | exact ld_all hT rfl rfl (List.mem_cons_of_mem _ mem0) rfl)
          | (apply es_load; (iterate 5 exact rfl); first | exact ld_blk hT rfl rfl (List.mem_cons_of_mem _ (List.mem_cons_of_mem _ mem0)) rfl rfl | exact ld_all hT rfl rfl (List.mem_cons_of_mem _ (List.mem_cons_of_mem _ mem0)) rfl)
          | (apply es_load; (iterate 5 exact rfl); first | exact ld_blk hT rfl rfl mem1 rfl rfl | exact ld_all hT rfl rfl mem1 rfl)
          | (apply es_load; (iterate 5 exact rfl); first | exact ld_blk hT rfl rfl (List.mem_cons_of_mem _ mem1) rfl rfl | exact ld_all hT rfl rfl (List.mem_cons_of_mem _ mem1) rfl)
          | (apply es_load; (iterate 5 exact rfl); first | exact ld_blk hT rfl rfl (List.mem_cons_of_mem _ (List.mem_cons_of_mem _ mem1)) rfl rfl | exact ld_all hT rfl rfl (List.mem_cons_of_mem _ (List.mem_cons_of_mem _ mem1)) rfl)
          | (apply es_box; (iterate 5 exact rfl); intro _) | (apply es_alloc hT; (iterate 5 exact rfl); intro _)
          | (apply aw_condT; (iterate 2 exact rfl)) | (apply aw_condF; (iterate 2 exact rfl))
          | (apply es_case; exact rfl; all_goals intro hb; all_goals (try simp only [hb]); all_goals (first | replace hb := of_decide_eq_true hb | replace hb := of_decide_eq_false hb | replace hb := bne_t hb | replace hb := bne_f hb | skip); all_goals (try (exfalso; omega)))
          | (apply aw_cond; exact rfl; all_goals intro hb; all_goals (try simp only [hb]); all_goals (first | replace hb := of_decide_eq_true hb | replace hb := of_decide_eq_false hb | replace hb := bne_t hb | replace hb := bne_f hb | skip); all_goals (try (exfalso; omega))))
        apply ret1; exact rfl
        refine ⟨bookTab p A' c' (addO o l) F, ?_, by rw [hE], A', c', rfl⟩
        rw [hA, bookTab, List.length_append, List.flatMap_append]
        apply dt_cons; (first | exact sel0 | exact sel1 | exact selS sel1 | exact selS (selS sel1) | exact selS (selS (selS sel1)) | exact selS (selS (selS (selS sel1))) | exact selS (selS (selS (selS (selS sel1)))) | exact selS (selS (selS (selS (selS (selS sel1))))))
        apply dt_cons; (first | exact sel0 | exact sel1 | exact selS sel1 | exact selS (selS sel1) | exact selS (selS (selS sel1)) | exact selS (selS (selS (selS sel1))) | exact selS (selS (selS (selS (selS sel1)))) | exact selS (selS (selS (selS (selS (selS sel1))))))
        (repeat (first | exact dt_end | apply dt_skip))
/-! ### Get, Drop, Less -/
def getO (id : Int) (l : List Order) : Option Order := l.find? (hasO id)
theorem find_at {α : Type} {p : α → Bool} (r : List α) : (idxOf p r = -1 ∧ r.find? p = none) ∨ (∃ (i : Nat) (x : α), idxOf p r = i ∧ r[i]? = some x ∧ p x = true ∧ r.find? p = some x) := by
  by_cases h : idxOf p r < 0
  · left
    have := idxOf_ge (p := p) (l := r)
    refine ⟨by omega, ?_⟩
    rw [List.find?_eq_none]
    intro x hx
    have := idxOf_neg'.1 h x hx
    simp [this]
  · right
    obtain ⟨i, hi⟩ := Int.eq_ofNat_of_zero_le (show 0 ≤ idxOf p r by omega)
    obtain ⟨x, hx, hp, hb⟩ := idxOf_first (p := p) (l := r) (i := i) hi
    refine ⟨i, x, hi, hx, hp, ?_⟩
    rw [List.find?_eq_some_iff_getElem]
    obtain ⟨hlt, hxe⟩ := List.getElem?_eq_some_iff.1 hx
    refine ⟨hp, i, hlt, hxe, fun j hj => ?_⟩
    have := hb j r[j] hj (List.getElem?_eq_getElem (by omega))
    simp [this]
def dropO (id : Int) (l : List Order) : List Order := if idxOf (hasO id) l < 0 then l else l.take (idxOf (hasO id) l).toNat ++ l.drop ((idxOf (hasO id) l).toNat + 1)
def lessE (id left : Int) (l : List Order) : Int := match getO id l with
  | none => 4
  | some x => if left < 1 ∨ left > x.left then 1 else 0
def lessO (id left : Int) (l : List Order) : List Order := match getO id l with
  | none => l
  | some x => if lessE id left l = 0 then l.set (idxOf (hasO id) l).toNat { x with left := left } else l
theorem book_SideNil (W : World) (s : Int) : QSpec Tryz.prog W 46 [.pointer none, .int .i64 s] [] (.slice none 0 0) := by
  refine QSpec.ofD (fun h' hs => ?_)
  refine spec_body Tryz.func46 rfl rfl Tryz.results46 Tryz.ntmps46 rfl rfl ?_
  repeat' (first
    | apply aw_seq | apply aw_region | apply aw_ret | apply aw_skip | apply aw_exit | apply aw_block | apply es_nil
    | (apply es_pure hT; (iterate 4 exact rfl)) | (apply es_skip; (iterate 3 exact rfl)) | (apply es_skip0; (iterate 2 exact rfl))
    | (apply es_i64 hT; (iterate 4 exact rfl); (iterate 2 omega))
    | (apply aw_draw [] [] hmix; decide +kernel)
    | (apply es_load; (iterate 5 exact rfl); first | exact ld_blk hT rfl rfl mem0 rfl rfl | exact ld_all hT rfl rfl mem0 rfl)
    | (apply es_load; (iterate 5 exact rfl); first | exact ld_blk hT rfl rfl mem1 rfl rfl | exact ld_all hT rfl rfl mem1 rfl)
    | (apply es_load; (iterate 5 exact rfl); first | exact ld_blk hT rfl rfl mem2 rfl rfl | exact ld_all hT rfl rfl mem2 rfl)
    | (apply es_box; (iterate 5 exact rfl); intro _) | (apply es_alloc hT; (iterate 5 exact rfl); intro _)
    | (apply aw_condT; (iterate 2 exact rfl)) | (apply aw_condF; (iterate 2 exact rfl))
    | (apply es_case; exact rfl; all_goals intro hb; all_goals (try simp only [hb]); all_goals (first | replace hb := of_decide_eq_true hb | replace hb := of_decide_eq_false hb | replace hb := bne_t hb | replace hb := bne_f hb | skip); all_goals (try (exfalso; omega)))
    | (apply aw_cond; exact rfl; all_goals intro hb; all_goals (try simp only [hb]); all_goals (first | replace hb := of_decide_eq_true hb | replace hb := of_decide_eq_false hb | replace hb := bne_t hb | replace hb := bne_f hb | skip); all_goals (try (exfalso; omega))))
  apply ret1; exact rfl
  exact ⟨rfl, by (repeat (first | exact dt_end | apply dt_skip))⟩
end Go.Proofs.YtjcnaeengplcbaaGreat

set_option linter.unusedSimpArgs false
set_option linter.unusedVariables false
namespace Go.Sl
open Go Go.RowKit Go.Sort Go.Proofs Go.Shelf

theorem flatK_list {α : Type} [Inhabited α] {enc : α → List Value} {k : Nat} (hk : ∀ x, (enc x).length = k) (d : Array α) : (flatK enc k d).toList = d.toList.flatMap enc := by
  apply List.ext_getElem?
  intro t
  have hl := flat_len (enc := enc) hk d.toList
  by_cases ht : t < d.size * k
  · have k0 : 0 < k := by
      rcases Nat.eq_zero_or_pos k with h | h
      · subst h; simp at ht
      · exact h
    have hi : t / k < d.size := (Nat.div_lt_iff_lt_mul k0).2 ht
    have hx : d.toList[t / k]? = some d[t / k]! := by
      rw [Array.getElem?_toList, getElem!_pos d _ hi]; simp [hi]
    have e := flat_at hk d.toList (t / k) (t % k) _ hx (Nat.mod_lt _ k0)
    rw [Nat.div_add_mod' t k] at e
    rw [e]
    have h1 := get_flatK enc k d t ht
    have hs : t < (flatK enc k d).size := by simpa using ht
    rw [Array.getElem?_toList, Array.getElem?_eq_getElem hs, ← getElem!_pos _ t hs, h1]
    have hm : t % k < (enc d[t / k]!).length := by rw [hk]; exact Nat.mod_lt _ k0
    rw [List.getElem?_eq_getElem hm, getElem!_pos (enc d[t / k]!) (t % k) hm]
  · rw [List.getElem?_eq_none (by simp; omega), List.getElem?_eq_none (by rw [hl]; simp; omega)]

theorem permIn_list {α : Type} [Inhabited α] {d d' : Array α} (h : PermIn 0 d.size d d') : d'.toList.Perm d.toList := by
  obtain ⟨h1, _, h3⟩ := h
  have e1 : d'.extract 0 d.size = d' := by rw [← h1]; simp
  have e2 : d.extract 0 d.size = d := by simp
  rw [e1, e2] at h3
  exact h3
theorem sortedIn_list {α : Type} [Inhabited α] {lt : α → α → Bool} {d' : Array α} {n : Nat} (h : SortedIn lt 0 n d') (hn : d'.size = n) : d'.toList.Pairwise fun a b => lt b a = false := by
  rw [List.pairwise_iff_getElem]
  intro i j hi hj hij
  have hj' : j < d'.size := by simpa using hj
  have := h i j (Nat.zero_le _) hij (by omega)
  rw [getElem!_pos d' j hj', getElem!_pos d' i (by omega)] at this
  simpa using this

section
variable {P : Program} {W w : World} {F : List Chunk} {α : Type} [Inhabited α] {enc : α → List Value} {k : Nat}

theorem sort_heap {g m : Nat} {os : Array Obj} {cur : Array Value} {t : TypeId} {fr : Nat × Nat} (d : Array α) (hb : w.heap[g]? = some (.cells cur t fr)) :
    (sortWorldK enc k w g 0 m d os).heap[g]? = some (.cells (putCells id 0 (flatK enc k d) cur) t fr) := by
  have hg : g < w.heap.size := (Array.getElem?_eq_some_iff.1 hb).1
  unfold sortWorldK putRowK
  rw [Go.Sort.heap_grow_old _ _ (by simpa using hg)]
  simp [putRow, mapBlock, Sort.ahead, Array.getElem?_modify, hb, onCells]

theorem sort_grownBy {g m : Nat} {os : Array Obj} (d : Array α) : w.grownBy (sortWorldK enc k w g 0 m d os) (some g) := by
  unfold sortWorldK putRowK
  refine ⟨rfl, rfl, rfl, by simp, fun j hj hne => ?_⟩
  rw [Go.Sort.heap_grow_old _ _ (by simpa using hj)]
  have : g ≠ j := fun e => hne (by rw [e])
  simp [putRow, mapBlock, Sort.ahead, Array.getElem?_modify, this]

theorem sort_rep {g n c m : Nat} {t : TypeId} {os : Array Obj} {l : List α} (hk : ∀ x, (enc x).length = k) (h1 : ∀ x, ∀ v ∈ enc x, v.oneCell' = true) (hn : l.length = n) (hw : Rep W (.own (some ⟨g, 0, none⟩) n c t k (l.flatMap enc) :: F) w) (d' : Array α) (hd : d'.size = n) :
    Rep W (.own (some ⟨g, 0, none⟩) n c t k (d'.toList.flatMap enc) :: F) (sortWorldK enc k w g 0 m d' os) := by
  have ho := hw.holds _ mem0
  rcases ho.1.2 with ⟨hv, _⟩ | ⟨g', cap, cur, hv, hbb, hgb, hnc, hcm, hcs, htk⟩
  · cases hv
  · injection hv with hA _ hc
    injection hA with hA
    injection hA with hA _ _
    subst hA hc
    have hlen : (d'.toList.flatMap enc).length = n * k := by rw [flat_len hk]; simp [hd]
    have hle : n * k ≤ cur.size := by rw [hcs]; exact Nat.mul_le_mul_right k hnc
    refine hw.change (sort_grownBy d') (fun j e => by simp [Chunk.keys]; exact (Option.some.inj e).symm) ⟨⟨hlen, .inr ⟨g, c, _, rfl, hbb, sort_heap d' hgb, hnc, hcm, by simp [putCells, hcs], ?_⟩⟩, fun v hv => ?_⟩ (fun j hj => .inl (by simpa [Chunk.keys] using hj))
    · rw [← flatK_list hk d']
      apply List.ext_getElem?
      intro j
      have hsz : (flatK enc k d').size = n * k := by simp [hd]
      by_cases hj : j < n * k
      · rw [List.getElem?_take_of_lt hj, Array.getElem?_toList, Array.getElem?_toList]
        have hjc : j < cur.size := by omega
        have hjf : j < (flatK enc k d').size := by omega
        simp [putCells, hjc, hjf]
        rw [if_pos (by rw [hd]; exact hj), Array.getElem?_eq_getElem hjf, getElem!_pos _ j hjf]
      · rw [List.getElem?_take_eq_none (by omega), List.getElem?_eq_none (by simp [hd]; omega)]
    · obtain ⟨x, _, hx⟩ := List.mem_flatMap.1 hv
      exact h1 x v hx

theorem sort_holds {g n c : Nat} {t : TypeId} {l : List α} (hk : ∀ x, (enc x).length = k) (hn : l.length = n) (hw : Rep W (.own (some ⟨g, 0, none⟩) n c t k (l.flatMap enc) :: F) w) : HoldsK enc k w g 0 l.toArray ∧ g < w.heap.size := by
  have ho := hw.holds _ mem0
  rcases ho.1.2 with ⟨hv, _⟩ | ⟨g', cap, cur, hv, hbb, hgb, hnc, hcm, hcs, htk⟩
  · cases hv
  · injection hv with hA _ hc
    injection hA with hA
    injection hA with hA _ _
    subst hA hc
    refine ⟨fun j hj => ?_, (Array.getElem?_eq_some_iff.1 hgb).1⟩
    have hj' : j < n * k := by simpa [hn] using hj
    refine ⟨?_, by simp [World.frozen?, hgb]⟩
    have h2 : (flatK enc k l.toArray).toList = l.flatMap enc := by rw [flatK_list hk]
    have h3 : (cur.toList.take (n * k))[j]? = ((flatK enc k l.toArray).toList)[j]? := by rw [htk, h2]
    rw [List.getElem?_take_of_lt hj', Array.getElem?_toList, Array.getElem?_toList] at h3
    simp only [World.cell?, hgb, Nat.zero_add, Option.isSome_none, Bool.false_eq_true, if_false]
    rw [h3, Array.getElem?_eq_getElem hj, getElem!_pos _ j hj]
    rfl

/-- **slices.SortFunc**, of a row of the call's own -/
theorem sortFS {ρ : Ren} (L : SlLaysF0.n6 P ρ) (hf : FunOK P (ρ.f 6)) (aE : ∀ w, (isAgg (ρ.t 24)).run P w = .ok true w) (zE : ∀ w, (Go.sizeOf (ρ.t 24)).run P w = .ok k w) (hk : ∀ x, (enc x).length = k) (h1 : ∀ x, ∀ v ∈ enc x, v.oneCell' = true) (cf : α → α → Int) (hO : SWO (ltOf cf)) (g : Nat)
    (eg : ∀ args w, (callFunc g args).run P w = .ok (.enter g args) w) (hcmp : ∀ (x y : α) (W : World), Calls P g #[.agg (enc x).toArray, .agg (enc y).toArray] W fun e w' => e = .returned (.int .i64 (cf x y)) ∧ ∃ q os', w' = grow (W.drewN q) os')
    (A : Option Addr) (c : Nat) (t : TypeId) (l : List α) (hb : l.length ≤ 1000000) :
    FSpec P W (ρ.f 6) [.slice A l.length c, .func (.func g) #[] #[]] (.own A l.length c t k (l.flatMap enc) :: F) (fun v h' => v = .tuple #[] ∧ ∃ l' : List α, l'.Perm l ∧ l'.Pairwise (fun a b => ltOf cf b a = false) ∧ h' = .own A l'.length c t k (l'.flatMap enc) :: F) := by
  refine ⟨hf, fun w hw => ?_⟩
  cases l with
  | nil => exact (AnyF.slices_SortFunc_none L A c _ w).mono fun e w' ⟨he, hww⟩ => ⟨_, _, he, ⟨rfl, [], List.Perm.refl _, List.Pairwise.nil, rfl⟩, by rw [hww]; exact hw⟩
  | cons x0 l0 =>
    generalize hl : x0 :: l0 = l at *
    have hpos : 0 < l.length := by rw [← hl]; simp
    obtain ⟨g', hA⟩ := (hw.ownF mem0).at_ hpos
    subst hA
    obtain ⟨hH, hblk⟩ := sort_holds hk rfl hw
    have hlays : CmpLays P g #[] enc k cf g' 0 l.toArray.size w := fun m os dk _ x y => by simpa using hcmp x y _
    have hcon := AnyQ.slices_SortFunc L k aE zE enc hk h1 cf hO g #[] g' 0 c l.toArray w eg hlays hH hblk (by simp; omega)
    refine hcon.mono ?_
    rintro e w' ⟨rfl, d', n, os, hp, hs, rfl⟩
    have hd : d'.size = l.length := by have := hp.1; simpa using this
    refine ⟨_, _, rfl, ⟨rfl, d'.toList, by simpa using permIn_list hp, sortedIn_list hs (by simpa using hd), rfl⟩, ?_⟩
    have := sort_rep (m := n) (os := os) hk h1 rfl hw d' hd
    simpa [hd] using this
end
end Go.Sl

namespace Go.Proofs.YtjcnaeengplcbaaGreat
open Go.Shelf
def sortL_ren : Go.Shelf.Ren := ⟨fun | 6 => 108 | 15 => 175 | 14 => 174 | 28 => 274 | 29 => 275 | 20 => 266 | 21 => 267 | 22 => 268 | 23 => 269 | 24 => 270 | 25 => 271 | 26 => 272 | 27 => 273 | 46 => 323 | 47 => 324 | 48 => 325 | 49 => 326 | 50 => 327 | 57 => 346 | n => n, fun | 22 => 36 | 24 => 82 | 25 => 195 | 3 => 3 | 39 => 109 | 0 => 0 | 53 => 318 | 55 => 104 | 4 => 4 | 46 => 312 | 45 => 311 | 50 => 251 | 5 => 5 | 9 => 9 | 66 => 356 | 70 => 359 | 76 => 374 | 77 => 375 | n => n, fun | n => n⟩
theorem sortL : Go.Proofs.SlLaysF0.n6 Tryz.prog sortL_ren := {
  mixed := by kernel_rfl
  f6 := ⟨Tryz.f108.name, by decide, Tryz.func108.trans (congrArg some (by kernel_rfl))⟩
  f14 := ⟨Tryz.f174.name, by decide, Tryz.func174.trans (congrArg some (by kernel_rfl))⟩
  f15 := Tryz.func175.trans (congrArg some (by kernel_rfl))
  f20 := ⟨Tryz.f266.name, by decide, Tryz.func266.trans (congrArg some (by kernel_rfl))⟩
  f21 := ⟨Tryz.f267.name, by decide, Tryz.func267.trans (congrArg some (by kernel_rfl))⟩
  f22 := ⟨Tryz.f268.name, by decide, Tryz.func268.trans (congrArg some (by kernel_rfl))⟩
  f23 := ⟨Tryz.f269.name, by decide, Tryz.func269.trans (congrArg some (by kernel_rfl))⟩
  f24 := ⟨Tryz.f270.name, by decide, Tryz.func270.trans (congrArg some (by kernel_rfl))⟩
  f25 := ⟨Tryz.f271.name, by decide, Tryz.func271.trans (congrArg some (by kernel_rfl))⟩
  f26 := ⟨Tryz.f272.name, by decide, Tryz.func272.trans (congrArg some (by kernel_rfl))⟩
  f27 := ⟨Tryz.f273.name, by decide, Tryz.func273.trans (congrArg some (by kernel_rfl))⟩
  f28 := Tryz.func274.trans (congrArg some (by kernel_rfl))
  f29 := Tryz.func275.trans (congrArg some (by kernel_rfl))
  f46 := ⟨Tryz.f323.name, by decide, Tryz.func323.trans (congrArg some (by kernel_rfl))⟩
  f47 := Tryz.func324.trans (congrArg some (by kernel_rfl))
  f48 := Tryz.func325.trans (congrArg some (by kernel_rfl))
  f49 := ⟨Tryz.f326.name, by decide, Tryz.func326.trans (congrArg some (by kernel_rfl))⟩
  f50 := ⟨Tryz.f327.name, by decide, Tryz.func327.trans (congrArg some (by kernel_rfl))⟩
  f57 := ⟨Tryz.f346.name, by decide, Tryz.func346.trans (congrArg some (by kernel_rfl))⟩
  t0 := Tryz.underlying0
  a0 := Tryz.isAgg0
  z0 := Tryz.sizeOf0
  v0 := Tryz.zeroValue0
  t3 := Tryz.underlying3
  a3 := Tryz.isAgg3
  z3 := Tryz.sizeOf3
  v3 := Tryz.zeroValue3
  t4 := Tryz.underlying4
  a4 := Tryz.isAgg4
  z4 := Tryz.sizeOf4
  v4 := Tryz.zeroValue4
  t5 := Tryz.underlying5
  a5 := Tryz.isAgg5
  z5 := Tryz.sizeOf5
  v5 := Tryz.zeroValue5
  t9 := Tryz.underlying9
  a9 := Tryz.isAgg9
  z9 := Tryz.sizeOf9
  v9 := Tryz.zeroValue9
  t22 := Tryz.underlying36
  a22 := Tryz.isAgg36
  z22 := Tryz.sizeOf36
  v22 := Tryz.zeroValue36
  t25 := Tryz.underlying195
  a25 := Tryz.isAgg195
  z25 := Tryz.sizeOf195
  v25 := Tryz.zeroValue195
  t39 := Tryz.underlying109
  a39 := Tryz.isAgg109
  z39 := Tryz.sizeOf109
  v39 := Tryz.zeroValue109
  t45 := Tryz.underlying311
  a45 := Tryz.isAgg311
  z45 := Tryz.sizeOf311
  v45 := Tryz.zeroValue311
  t46 := Tryz.underlying312
  a46 := Tryz.isAgg312
  z46 := Tryz.sizeOf312
  v46 := Tryz.zeroValue312
  t50 := Tryz.underlying251
  a50 := Tryz.isAgg251
  z50 := Tryz.sizeOf251
  v50 := Tryz.zeroValue251
  t53 := Tryz.underlying318
  a53 := Tryz.isAgg318
  z53 := Tryz.sizeOf318
  v53 := Tryz.zeroValue318
  t55 := Tryz.underlying104
  a55 := Tryz.isAgg104
  z55 := Tryz.sizeOf104
  v55 := Tryz.zeroValue104
  t66 := Tryz.underlying356
  a66 := Tryz.isAgg356
  z66 := Tryz.sizeOf356
  v66 := Tryz.zeroValue356
  t70 := Tryz.underlying359
  a70 := Tryz.isAgg359
  z70 := Tryz.sizeOf359
  v70 := Tryz.zeroValue359
  t76 := Tryz.underlying374
  a76 := Tryz.isAgg374
  z76 := Tryz.sizeOf374
  v76 := Tryz.zeroValue374
  t77 := Tryz.underlying375
  a77 := Tryz.isAgg375
  z77 := Tryz.sizeOf375
  v77 := Tryz.zeroValue375 }
end Go.Proofs.YtjcnaeengplcbaaGreat

set_option linter.unusedSimpArgs false
set_option linter.unusedVariables false
namespace Go.Proofs.YtjcnaeengplcbaaGreat
open Go Go.Sl Go.RowKit Go.Sort

set_option maxHeartbeats 1000000 in
theorem betterK (s a b : Int) (W : World) : Calls Tryz.prog 176 #[.int .i64 s, .int .i64 a, .int .i64 b] W fun e w' => e = .returned (.bool (betterB s a b)) ∧ w' = W := by
  go_enter Tryz.func176, Tryz.ntmps176
  go_wp2
  all_goals
    go_ret
    refine ⟨?_, rfl⟩
    simp [betterB, *]

set_option maxHeartbeats 1000000 in
theorem isNaNK (x : Int) (W : World) : Calls Tryz.prog 276 #[.int .i64 x] W fun e w' => e = .returned (.bool false) ∧ w' = W := by
  go_enter Tryz.func276, Tryz.ntmps276
  go_wp2
  all_goals
    go_ret
    exact ⟨by simp, rfl⟩
set_option maxHeartbeats 1000000 in
theorem cmpK (x y : Int) (W : World) : Calls Tryz.prog 177 #[.int .i64 x, .int .i64 y] W fun e w' => e = .returned (.int .i64 (cmpI x y)) ∧ w' = W := by
  have h1 := fun z W => isNaNK z W
  go_enter Tryz.func177, Tryz.ntmps177
  go_wp2_with (go_at_call 276; refine (h1 _ _).mono ?_; rintro e w' ⟨rfl, rfl⟩)
  all_goals
    go_ret
    refine ⟨?_, rfl⟩
    simp [cmpI, *]
    try (split <;> (try split) <;> omega)
set_option maxHeartbeats 2000000 in
theorem orderK (a b : Order) (W : World) : Calls Tryz.prog 109 #[.agg a.enc.toArray, .agg b.enc.toArray] W fun e w' => e = .returned (.int .i64 (cfO a b)) ∧ ∃ q os', w' = grow (W.drewN q) os' := by
  obtain ⟨a0, a1, a2, a3, a4, a5⟩ := a
  obtain ⟨b0, b1, b2, b3, b4, b5⟩ := b
  have h1 := fun s x y W => betterK s x y W
  have h2 := fun x y W => cmpK x y W
  unfold cfO
  dsimp only [Order.enc]
  go_enter Tryz.func109, Tryz.ntmps109
  go_wp2_with (first | (go_at_call 176; refine (h1 _ _ _ _).mono ?_; rintro e w' ⟨rfl, rfl⟩) | (go_at_call 177; refine (h2 _ _ _).mono ?_; rintro e w' ⟨rfl, rfl⟩))
  all_goals
    go_ret
    refine ⟨?_, 0, _, by rw [alloc_eq_grow, alloc_eq_grow, grow_grow]; rfl⟩
    simp [*]
end Go.Proofs.YtjcnaeengplcbaaGreat

set_option linter.unusedSimpArgs false
set_option linter.unusedVariables false
namespace Go.Proofs.YtjcnaeengplcbaaGreat
open Go Go.Sl Go.RowKit
attribute [local irreducible] AW ES EP Ld RetQ
set_option maxRecDepth 100000

theorem aw_own {P : Program} {W : World} {N : Nat} {env : Env} {h : List Chunk} {Q : Exit → Env → List Chunk → Prop} {c : Code} {A : Option Addr} {n cc k : Nat} {e : TypeId} {cs : List Value} (hm : Chunk.own A n cc e k cs ∈ h)
    (hc : OwnF A n cc k cs → AW P W N c env h Q) : AW P W N c env h Q := aw_conv fun w hw => ⟨h, hw, hc (hw.ownF hm)⟩
theorem sub_list {α : Type} {p : α → Prop} : ∀ (l : List α), (∀ x ∈ l, p x) → ∃ ls : List {x // p x}, ls.map Subtype.val = l
  | [], _ => ⟨[], rfl⟩
  | x :: l, h => by
    obtain ⟨ls, hl⟩ := sub_list l (fun y hy => h y (List.mem_cons_of_mem _ hy))
    exact ⟨⟨x, h x List.mem_cons_self⟩ :: ls, by simp [hl]⟩
theorem cfO_lt {s : Int} {a b : Order} (ha : a.side = s) : (cfO a b < 0) ↔ (if s = 1 then a.price > b.price ∨ (a.price = b.price ∧ a.seq < b.seq) else if s = 2 then a.price < b.price ∨ (a.price = b.price ∧ a.seq < b.seq) else a.seq < b.seq) := by
  unfold cfO betterB cmpI
  subst ha
  by_cases h1 : a.side = 1
  · simp only [h1, if_true]
    simp
    split <;> (try split) <;> (try split) <;> (try split) <;> omega
  · by_cases h2 : a.side = 2
    · simp only [h2]
      simp
      split <;> (try split) <;> (try split) <;> (try split) <;> omega
    · simp [h1, h2]
      split <;> (try split) <;> omega
abbrev OrdS (s : Int) := {o : Order // o.side = s}
instance instOrdS (s : Int) : Inhabited (OrdS s) := ⟨⟨⟨0, 0, 0, s, 0, 0⟩, rfl⟩⟩
def encS {s : Int} (x : OrdS s) : List Value := x.1.enc
def cfS {s : Int} (x y : OrdS s) : Int := cfO x.1 y.1
theorem ltS {s : Int} (x y : OrdS s) : ltOf cfS x y = true ↔ (if s = 1 then x.1.price > y.1.price ∨ (x.1.price = y.1.price ∧ x.1.seq < y.1.seq) else if s = 2 then x.1.price < y.1.price ∨ (x.1.price = y.1.price ∧ x.1.seq < y.1.seq) else x.1.seq < y.1.seq) := by
  unfold ltOf
  rw [decide_eq_true_iff]
  exact cfO_lt x.2
theorem swoS (s : Int) : Sort.SWO (ltOf (cfS (s := s))) where
  irrefl x := by
    cases h : ltOf cfS x x
    · rfl
    · rw [ltS] at h; exfalso; split at h <;> (try split at h) <;> omega
  trans x y z h1 h2 := by
    rw [ltS] at *
    split <;> (try split) <;> simp_all <;> omega
  ntrans x y z h1 h2 := by
    cases h : ltOf cfS x z
    · rfl
    · exfalso
      have k1 : ¬ ltOf cfS x y = true := by rw [h1]; simp
      have k2 : ¬ ltOf cfS y z = true := by rw [h2]; simp
      rw [ltS] at h k1 k2
      split at h <;> (try split at h) <;> simp_all <;> omega

theorem book_sort (W : World) (s : Int) (F : List Chunk) (A : Option Addr) (c : Nat) (l : List Order) (hl : ∀ o ∈ l, o.side = s) (hb : l.length ≤ 1000000) :
    FSpec Tryz.prog W 108 [.slice A l.length c, .func (.func 109) #[] #[]] (.own A l.length c 82 6 (l.flatMap Order.enc) :: F)
      (fun v h' => v = .tuple #[] ∧ ∃ l' : List Order, l'.Perm l ∧ l'.Pairwise (fun a b => ¬ cfO b a < 0) ∧ h' = .own A l'.length c 82 6 (l'.flatMap Order.enc) :: F) := by
  obtain ⟨ls, rfl⟩ := sub_list (p := fun o => o.side = s) l hl
  have e : ∀ m : List (OrdS s), (m.map Subtype.val).flatMap Order.enc = m.flatMap encS := fun m => by rw [List.flatMap_map]; rfl
  have hf : FunOK Tryz.prog 108 := ⟨_, Tryz.func108, rfl, rfl⟩
  have eg : ∀ args w, (callFunc 109 args).run Tryz.prog w = .ok (.enter 109 args) w := enters_of Tryz.func109 (by kernel_rfl) rfl
  have := sortFS (P := Tryz.prog) (W := W) (F := F) (enc := encS (s := s)) (k := 6) sortL hf Tryz.isAgg82 Tryz.sizeOf82 (fun x => x.1.enc_len) (fun x => x.1.enc_one) cfS (swoS s) 109 eg (fun x y W => orderK x.1 y.1 W) A c 82 ls (by simpa using hb)
  rw [List.length_map, e]
  refine FSpec.mono this ?_
  rintro v h' ⟨rfl, l', hp, hs, rfl⟩
  refine ⟨rfl, l'.map Subtype.val, hp.map _, ?_, by rw [List.length_map, e]⟩
  rw [List.pairwise_map]
  exact hs.imp (fun {a b} hab => of_decide_eq_false hab)

set_option maxHeartbeats 1000000 in
theorem book_Side (W : World) (h : List Chunk) (p : Nat) (A : Option Addr) (c : Nat) (l : List Order) (s : Int) (m1 : Chunk.blk p 193 [.slice A l.length c] ∈ h) (m2 : Chunk.own A l.length c 82 6 (l.flatMap Order.enc) ∈ h) (hb : l.length ≤ 1000000) (hu : uqSeq l) (hv : ∀ o ∈ l, isB o.side = true) :
    FSpec Tryz.prog W 46 [.pointer (some ⟨p, 0, none⟩), .int .i64 s] h
      (fun v h' => ∃ A' c', v = .slice A' (sideO s l).length c' ∧ h' = .own A' (sideO s l).length c' 82 6 ((sideO s l).flatMap Order.enc) :: h ∧ OwnF A' (sideO s l).length c' 6 ((sideO s l).flatMap Order.enc)) := by
  refine FSpec.dropF ?_
  refine spec_body Tryz.func46 rfl rfl Tryz.results46 Tryz.ntmps46 rfl rfl ?_
  refine aw_fact m2 (fun hl hnc hcc hsome hnone hone => ?_)
  have hr : Reads W h A l.length 6 (l.flatMap Order.enc) := Reads.own m2 hl hone
  repeat' (first
    | apply aw_seq | apply aw_region | apply aw_ret | apply aw_skip | apply aw_exit | apply aw_block | apply es_nil
    | (apply es_pure hT; (iterate 4 exact rfl)) | (apply es_skip; (iterate 3 exact rfl)) | (apply es_skip0; (iterate 2 exact rfl))
    | (apply es_i64 hT; (iterate 4 exact rfl); (iterate 2 omega))
    | (apply aw_draw [] [] hmix; decide +kernel)
    | (apply es_load; (iterate 5 exact rfl); first | exact ld_blk hT rfl rfl mem0 rfl rfl | exact ld_all hT rfl rfl mem0 rfl)
    | (apply es_load; (iterate 5 exact rfl); first | exact ld_blk hT rfl rfl mem1 rfl rfl | exact ld_all hT rfl rfl mem1 rfl)
    | (apply es_load; (iterate 5 exact rfl); first | exact ld_blk hT rfl rfl mem2 rfl rfl | exact ld_all hT rfl rfl mem2 rfl)
    | (apply es_load; (iterate 5 exact rfl); first | exact ld_blk hT rfl rfl m1 rfl rfl | exact ld_all hT rfl rfl m1 rfl)
    | (apply es_load; (iterate 5 exact rfl); first | exact ld_blk hT rfl rfl (List.mem_cons_of_mem _ m1) rfl rfl | exact ld_all hT rfl rfl (List.mem_cons_of_mem _ m1) rfl)
    | (apply es_box; (iterate 5 exact rfl); intro _) | (apply es_alloc hT; (iterate 5 exact rfl); intro _)
    | (apply aw_condT; (iterate 2 exact rfl)) | (apply aw_condF; (iterate 2 exact rfl))
    | (apply es_case; exact rfl; all_goals intro hb; all_goals (try simp only [hb]); all_goals (first | replace hb := of_decide_eq_true hb | replace hb := of_decide_eq_false hb | replace hb := bne_t hb | replace hb := bne_f hb | skip); all_goals (try (exfalso; omega)))
    | (apply aw_cond; exact rfl; all_goals intro hb; all_goals (try simp only [hb]); all_goals (first | replace hb := of_decide_eq_true hb | replace hb := of_decide_eq_false hb | replace hb := bne_t hb | replace hb := bne_f hb | skip); all_goals (try (exfalso; omega))))
  refine aw_conv (fun w hw => ⟨_, hw.own_nil 82 6, ?_⟩)
  have hml : ∀ k, ((l.take k).filter (isSide s)).length ≤ k := fun k => by
    have := List.length_filter_le (isSide s) (l.take k); simp at this; omega
  refine aw_loop (α := Nat × Option Addr × Nat) (E := fun x => [(1, .int .i64 s), (5, .slice x.2.1 ((l.take x.1).filter (isSide s)).length x.2.2), (13, .slice A l.length c), (14, .int .i64 l.length), (15, .int .i64 x.1)])
    (H := fun x => .own x.2.1 ((l.take x.1).filter (isSide s)).length x.2.2 82 6 (((l.take x.1).filter (isSide s)).flatMap Order.enc) :: h) (μ := fun x => l.length - x.1)
    (S := fun x => x.1 ≤ l.length) (0, none, 0) (J := []) (Nat.zero_le _) ⟨rfl, rfl, rfl, rfl, rfl, trivial⟩ (List.Perm.refl _) ?_
  rintro ⟨k, A5, c5⟩ hk
  dsimp only at hk ⊢
  have hmk := hml k
  by_cases hlt : k < l.length
  · obtain ⟨x, hx⟩ : ∃ x, l[k]? = some x := ⟨l[k]'(by omega), List.getElem?_eq_getElem (by omega)⟩
    have hx2 : l[(k : Int).toNat]? = some x := by simpa using hx
    obtain ⟨g, hA⟩ := hsome (by omega)
    have hA2 : A.isSome = true := by rw [hA]; rfl
    have hd1 : decide ((k : Int) < (l.length : Int)) = true := by simp; omega
    have hrc := fun X => hr.cons (c := X)
    cases hlv : isSide s x
    · have hne : ¬ x.side = s := by simpa [isSide] using hlv
      have hs1 : (l.take (k + 1)).filter (isSide s) = (l.take k).filter (isSide s) := by
        rw [List.take_add_one, hx, List.filter_append]; simp [hlv]
      repeat' (first
        | apply aw_seq | apply aw_region | apply aw_ret | apply aw_skip | apply aw_exit | apply aw_block | apply es_nil
        | (apply es_pure hT; (iterate 4 exact rfl)) | (apply es_skip; (iterate 3 exact rfl)) | (apply es_skip0; (iterate 2 exact rfl))
        | (apply es_i64 hT; (iterate 4 exact rfl); (iterate 2 omega))
        | (apply aw_draw [] [] hmix; decide +kernel)
        | (apply es_idx hT; (iterate 8 exact rfl); (iterate 2 omega); exact hA2)
        | (apply es_load; (iterate 5 exact rfl); exact ld_elem hT rfl rfl (hrc _) Order.enc_len rfl hx2 rfl)
        | (apply es_alloc hT; (iterate 5 exact rfl); intro g7)
        | (apply es_store hT; (iterate 6 exact rfl); exact sel0; (iterate 3 exact rfl); exact Nat.le_of_ble_eq_true rfl)
        | (apply es_load; (iterate 5 exact rfl); first | exact ld_blk hT rfl rfl mem0 rfl rfl | exact ld_all hT rfl rfl mem0 rfl)
        | (apply es_load; (iterate 5 exact rfl); first | exact ld_blk hT rfl rfl mem1 rfl rfl | exact ld_all hT rfl rfl mem1 rfl)
        | (apply es_load; (iterate 5 exact rfl); first | exact ld_blk hT rfl rfl mem2 rfl rfl | exact ld_all hT rfl rfl mem2 rfl)
        | (apply es_box; (iterate 5 exact rfl); intro _) | (apply es_alloc hT; (iterate 5 exact rfl); intro _)
        | (apply aw_condT; (iterate 2 exact rfl)) | (apply aw_condF; (iterate 2 exact rfl))
        | (apply es_case; exact rfl; all_goals intro hb; all_goals (try simp only [hb]); all_goals (first | replace hb := of_decide_eq_true hb | replace hb := of_decide_eq_false hb | replace hb := bne_t hb | replace hb := bne_f hb | skip); all_goals (try (exfalso; omega)))
        | (apply aw_cond; exact rfl; all_goals intro hb; all_goals (try simp only [hb]); all_goals (first | replace hb := of_decide_eq_true hb | replace hb := of_decide_eq_false hb | replace hb := bne_t hb | replace hb := bne_f hb | skip); all_goals (try (exfalso; omega))))
      all_goals first
        | (exfalso; omega)
        | (refine loopq_end (k + 1, A5, c5) (by dsimp only; omega) (by dsimp only; omega) ⟨rfl, by dsimp only; rw [hs1]; rfl, rfl, rfl, rfl, trivial⟩ ?_
           dsimp only
           rw [hs1]
           exact dt_skip dt_end)
    · have hne : x.side = s := by simpa [isSide] using hlv
      have hs1 : (l.take (k + 1)).filter (isSide s) = (l.take k).filter (isSide s) ++ [x] := by
        rw [List.take_add_one, hx, List.filter_append]; simp [hlv]
      repeat' (first
        | apply aw_seq | apply aw_region | apply aw_ret | apply aw_skip | apply aw_exit | apply aw_block | apply es_nil
        | (apply es_pure hT; (iterate 4 exact rfl)) | (apply es_skip; (iterate 3 exact rfl)) | (apply es_skip0; (iterate 2 exact rfl))
        | (apply es_i64 hT; (iterate 4 exact rfl); (iterate 2 omega))
        | (apply aw_draw [] [] hmix; decide +kernel)
        | (apply es_idx hT; (iterate 8 exact rfl); (iterate 2 omega); exact hA2)
        | (apply es_load; (iterate 5 exact rfl); exact ld_elem hT rfl rfl (hrc _) Order.enc_len rfl hx2 rfl)
        | (apply es_alloc hT; (iterate 5 exact rfl); intro g7)
        | (apply es_store hT; (iterate 6 exact rfl); exact sel0; (iterate 3 exact rfl); exact Nat.le_of_ble_eq_true rfl)
        | (apply es_buildSlice hT; (iterate 12 exact rfl); intro g)
        | (apply es_append hT; (iterate 10 exact rfl); (first | exact sel0 | exact sel1 | exact selS sel1 | exact selS (selS sel1) | exact selS (selS (selS sel1)) | exact selS (selS (selS (selS sel1))) | exact selS (selS (selS (selS (selS sel1)))) | exact selS (selS (selS (selS (selS (selS sel1)))))); exact Reads.own mem0 rfl (Order.enc_one x); omega; (show (_ : Nat) * 48 ≤ _; omega); intro A' c')
        | (apply es_load; (iterate 5 exact rfl); first | exact ld_blk hT rfl rfl mem0 rfl rfl | exact ld_all hT rfl rfl mem0 rfl)
        | (apply es_load; (iterate 5 exact rfl); first | exact ld_blk hT rfl rfl mem1 rfl rfl | exact ld_all hT rfl rfl mem1 rfl)
        | (apply es_load; (iterate 5 exact rfl); first | exact ld_blk hT rfl rfl mem2 rfl rfl | exact ld_all hT rfl rfl mem2 rfl)
        | (apply es_box; (iterate 5 exact rfl); intro _) | (apply es_alloc hT; (iterate 5 exact rfl); intro _)
        | (apply aw_condT; (iterate 2 exact rfl)) | (apply aw_condF; (iterate 2 exact rfl))
        | (apply es_case; exact rfl; all_goals intro hb; all_goals (try simp only [hb]); all_goals (first | replace hb := of_decide_eq_true hb | replace hb := of_decide_eq_false hb | replace hb := bne_t hb | replace hb := bne_f hb | skip); all_goals (try (exfalso; omega)))
        | (apply aw_cond; exact rfl; all_goals intro hb; all_goals (try simp only [hb]); all_goals (first | replace hb := of_decide_eq_true hb | replace hb := of_decide_eq_false hb | replace hb := bne_t hb | replace hb := bne_f hb | skip); all_goals (try (exfalso; omega))))
      all_goals first
        | (exfalso; omega)
        | (refine loopq_end (k + 1, A', c') (by dsimp only; omega) (by dsimp only; omega) ⟨rfl, by dsimp only; rw [hs1, List.length_append]; rfl, rfl, rfl, rfl, trivial⟩ ?_
           dsimp only
           rw [hs1, List.length_append, List.flatMap_append]
           apply dt_cons; (first | exact sel0 | exact sel1 | exact selS sel1 | exact selS (selS sel1) | exact selS (selS (selS sel1)) | exact selS (selS (selS (selS sel1))) | exact selS (selS (selS (selS (selS sel1)))) | exact selS (selS (selS (selS (selS (selS sel1))))))
           (repeat (first | exact dt_end | apply dt_skip)))
  · obtain rfl : k = l.length := by omega
    have hd1 : decide ((l.length : Int) < (l.length : Int)) = false := by simp
    rw [List.take_length] at hmk ⊢
    have hside : ∀ o ∈ l.filter (isSide s), o.side = s := fun o ho => by simpa [isSide] using (List.mem_filter.1 ho).2
    have hsort := fun A5 c5 => book_sort W s h A5 c5 (l.filter (isSide s)) hside (by omega)
    have hfin : ∀ m : List Order, m.Perm (l.filter (isSide s)) → m.Pairwise (fun a b => ¬ cfO b a < 0) → m = sideO s l := fun m hp hs => side_sorted hu hv hp hs
    have hlen : (sideO s l).length = (l.filter (isSide s)).length := (sideO_perm s l).length_eq
    repeat' (first
      | apply aw_seq | apply aw_region | apply aw_ret | apply aw_skip | apply aw_exit | apply aw_block | apply es_nil
      | (apply es_pure hT; (iterate 4 exact rfl)) | (apply es_skip; (iterate 3 exact rfl)) | (apply es_skip0; (iterate 2 exact rfl))
      | (apply es_i64 hT; (iterate 4 exact rfl); (iterate 2 omega))
      | (apply aw_draw [] [] hmix; decide +kernel)
      | (apply es_call0 (hs := (hsort _ _)); (iterate 6 exact rfl); (rintro _ _ ⟨rfl, m, hp, hs, rfl⟩; obtain rfl := hfin m hp hs))
      | (apply es_call (hs := (hsort _ _)); (iterate 7 exact rfl); (rintro _ _ ⟨rfl, m, hp, hs, rfl⟩; obtain rfl := hfin m hp hs))
      | (apply es_load; (iterate 5 exact rfl); first | exact ld_blk hT rfl rfl mem0 rfl rfl | exact ld_all hT rfl rfl mem0 rfl)
      | (apply es_load; (iterate 5 exact rfl); first | exact ld_blk hT rfl rfl mem1 rfl rfl | exact ld_all hT rfl rfl mem1 rfl)
      | (apply es_load; (iterate 5 exact rfl); first | exact ld_blk hT rfl rfl mem2 rfl rfl | exact ld_all hT rfl rfl mem2 rfl)
      | (apply es_box; (iterate 5 exact rfl); intro _) | (apply es_alloc hT; (iterate 5 exact rfl); intro _)
      | (apply aw_condT; (iterate 2 exact rfl)) | (apply aw_condF; (iterate 2 exact rfl))
      | (apply es_case; exact rfl; all_goals intro hb; all_goals (try simp only [hb]); all_goals (first | replace hb := of_decide_eq_true hb | replace hb := of_decide_eq_false hb | replace hb := bne_t hb | replace hb := bne_f hb | skip); all_goals (try (exfalso; omega)))
      | (apply aw_cond; exact rfl; all_goals intro hb; all_goals (try simp only [hb]); all_goals (first | replace hb := of_decide_eq_true hb | replace hb := of_decide_eq_false hb | replace hb := bne_t hb | replace hb := bne_f hb | skip); all_goals (try (exfalso; omega))))
    apply ret1; exact rfl
    refine ⟨_, dt_end, fun w hw => ⟨A5, c5, by rw [hlen], rfl, hw.ownF mem0⟩⟩

/-! ### levels -/
theorem levels_pos {o : List Order} (ho : ∀ x ∈ o, 1 ≤ x.left ∧ x.left ≤ 1000000) (hb : o.length ≤ 1000000) : ∀ v ∈ levelsO o, 1 ≤ v.qty ∧ v.qty ≤ 1000000 * o.length := by
  have key : ∀ (o : List Order) (v : List Lvl) (n : Nat), (∀ x ∈ o, 1 ≤ x.left ∧ x.left ≤ 1000000) → (∀ y ∈ v, 1 ≤ y.qty ∧ y.qty ≤ 1000000 * (n : Int)) → ∀ y ∈ o.foldl addLv v, 1 ≤ y.qty ∧ y.qty ≤ 1000000 * ((n + o.length : Nat) : Int) := by
    intro o
    induction o with
    | nil => intro v n _ hv y hy; simpa using hv y hy
    | cons x o ih =>
      intro v n ho hv y hy
      rw [List.foldl_cons] at hy
      have hx := ho x List.mem_cons_self
      have := ih (addLv v x) (n + 1) (fun z hz => ho z (List.mem_cons_of_mem _ hz)) (fun z hz => ?_) y hy
      · rw [List.length_cons]
        have e : ((n + 1 + o.length : Nat) : Int) = ((n + (o.length + 1) : Nat) : Int) := by omega
        rw [e] at this; exact this
      · unfold addLv at hz
        have hmono : ∀ y ∈ v, 1 ≤ y.qty ∧ y.qty ≤ 1000000 * ((n + 1 : Nat) : Int) := fun y hy => by have := hv y hy; omega
        split at hz
        · rename_i w hw
          have hwv : w ∈ v := List.mem_of_getLast? hw
          split at hz
          · rcases List.mem_append.1 hz with h | h
            · exact hmono z ((List.dropLast_sublist v).subset h)
            · rw [List.mem_singleton.1 h]; have := hv w hwv; dsimp only; omega
          · rcases List.mem_append.1 hz with h | h
            · exact hmono z h
            · rw [List.mem_singleton.1 h]; dsimp only; omega
        · rw [List.mem_singleton.1 hz]; dsimp only; omega
  intro v hv
  have := key o [] 0 ho (fun y hy => by cases hy) v hv
  simpa using this

theorem addLv_last {v : List Lvl} {x : Lvl} {o : Order} (h : v[v.length - 1]? = some x) (hp : x.price = o.price) : addLv v o = v.set (v.length - 1) ⟨x.price, x.qty + o.left⟩ := by
  have hl : v.getLast? = some x := by rw [List.getLast?_eq_getElem?]; exact h
  unfold addLv
  rw [hl]
  dsimp only
  rw [if_pos hp]
  have hne : v ≠ [] := fun e => by rw [e] at h; simp at h
  obtain ⟨u, y, rfl⟩ := List.eq_nil_or_concat v |>.resolve_left hne
  simp
theorem addLv_new {v : List Lvl} {o : Order} (h : ∀ x, v[v.length - 1]? = some x → x.price ≠ o.price) : addLv v o = v ++ [⟨o.price, o.left⟩] := by
  unfold addLv
  split
  · rename_i x hx
    rw [List.getLast?_eq_getElem?] at hx
    rw [if_neg (h x hx)]
  · rename_i hx
    rw [List.getLast?_eq_none_iff] at hx
    rw [hx]; rfl

set_option maxHeartbeats 1000000 in
theorem book_Levels (W : World) (h : List Chunk) (p : Nat) (A : Option Addr) (c : Nat) (l : List Order) (s : Int) (m1 : Chunk.blk p 193 [.slice A l.length c] ∈ h) (m2 : Chunk.own A l.length c 82 6 (l.flatMap Order.enc) ∈ h) (hb : l.length ≤ 1000000) (hu : uqSeq l) (hv : ∀ o ∈ l, isB o.side = true) (hq : ∀ o ∈ l, 1 ≤ o.left ∧ o.left ≤ 1000000) :
    FSpec Tryz.prog W 87 [.pointer (some ⟨p, 0, none⟩), .int .i64 s] h
      (fun v h' => ∃ A' c', v = .slice A' (levelsO (sideO s l)).length c' ∧ h' = .own A' (levelsO (sideO s l)).length c' 151 2 ((levelsO (sideO s l)).flatMap Lvl.enc) :: h ∧ OwnF A' (levelsO (sideO s l)).length c' 2 ((levelsO (sideO s l)).flatMap Lvl.enc)) := by
  refine FSpec.dropF ?_
  refine spec_body Tryz.func87 rfl rfl Tryz.results87 Tryz.ntmps87 rfl rfl ?_
  have hside := book_Side W h p A c l s m1 m2 hb hu hv
  have hsl := sideO_len s l
  have hsq : ∀ o ∈ sideO s l, 1 ≤ o.left ∧ o.left ≤ 1000000 := fun o ho => hq o (sideO_side ho).1
  generalize sideO s l = sl at hside hsl hsq
  repeat' (first
    | apply aw_seq | apply aw_region | apply aw_ret | apply aw_skip | apply aw_exit | apply aw_block | apply es_nil
    | (apply es_pure hT; (iterate 4 exact rfl)) | (apply es_skip; (iterate 3 exact rfl)) | (apply es_skip0; (iterate 2 exact rfl))
    | (apply es_i64 hT; (iterate 4 exact rfl); (iterate 2 omega))
    | (apply aw_draw [] [] hmix; decide +kernel)
    | (apply es_call (hs := hside); (iterate 7 exact rfl); rintro _ _ ⟨AS, cS, rfl, rfl, hfS⟩)
    | (apply es_load; (iterate 5 exact rfl); first | exact ld_blk hT rfl rfl mem0 rfl rfl | exact ld_all hT rfl rfl mem0 rfl)
    | (apply es_load; (iterate 5 exact rfl); first | exact ld_blk hT rfl rfl mem1 rfl rfl | exact ld_all hT rfl rfl mem1 rfl)
    | (apply es_load; (iterate 5 exact rfl); first | exact ld_blk hT rfl rfl mem2 rfl rfl | exact ld_all hT rfl rfl mem2 rfl)
    | (apply es_box; (iterate 5 exact rfl); intro _) | (apply es_alloc hT; (iterate 5 exact rfl); intro _)
    | (apply aw_condT; (iterate 2 exact rfl)) | (apply aw_condF; (iterate 2 exact rfl))
    | (apply es_case; exact rfl; all_goals intro hb; all_goals (try simp only [hb]); all_goals (first | replace hb := of_decide_eq_true hb | replace hb := of_decide_eq_false hb | replace hb := bne_t hb | replace hb := bne_f hb | skip); all_goals (try (exfalso; omega)))
    | (apply aw_cond; exact rfl; all_goals intro hb; all_goals (try simp only [hb]); all_goals (first | replace hb := of_decide_eq_true hb | replace hb := of_decide_eq_false hb | replace hb := bne_t hb | replace hb := bne_f hb | skip); all_goals (try (exfalso; omega))))
  refine aw_conv (fun w hw => ⟨_, hw.own_nil 151 2, ?_⟩)
  have hll : ∀ k, k ≤ sl.length → (levelsO (sl.take k)).length ≤ k := by
    intro k
    induction k with
    | zero => intro _; simp [levelsO]
    | succ k ih =>
      intro hk
      obtain ⟨x, hx⟩ : ∃ x, sl[k]? = some x := ⟨sl[k]'(by omega), List.getElem?_eq_getElem (by omega)⟩
      rw [List.take_add_one, hx]
      have := addLv_len (levelsO (sl.take k)) x
      have := ih (by omega)
      rw [show (some x).toList = [x] from rfl, levelsO_add]; omega
  refine aw_loop (α := Nat × Option Addr × Nat) (E := fun x => [(5, .slice x.2.1 (levelsO (sl.take x.1)).length x.2.2), (11, .slice AS sl.length cS), (12, .int .i64 sl.length), (13, .int .i64 x.1)])
    (H := fun x => .own x.2.1 (levelsO (sl.take x.1)).length x.2.2 151 2 ((levelsO (sl.take x.1)).flatMap Lvl.enc) :: .own AS sl.length cS 82 6 (sl.flatMap Order.enc) :: h) (μ := fun x => sl.length - x.1)
    (S := fun x => x.1 ≤ sl.length) (0, none, 0) (J := []) (Nat.zero_le _) ⟨rfl, rfl, rfl, rfl, trivial⟩ (List.Perm.refl _) ?_
  rintro ⟨k, A5, c5⟩ hk
  dsimp only at hk ⊢
  refine aw_own mem0 (fun hf5 => ?_)
  have hmk := hll k hk
  by_cases hlt : k < sl.length
  · obtain ⟨x, hx⟩ : ∃ x, sl[k]? = some x := ⟨sl[k]'(by omega), List.getElem?_eq_getElem (by omega)⟩
    have hx2 : sl[(k : Int).toNat]? = some x := by simpa using hx
    have hA := hfS.some_ (by omega)
    have hd1 : decide ((k : Int) < (sl.length : Int)) = true := by simp; omega
    have hstep : levelsO (sl.take (k + 1)) = addLv (levelsO (sl.take k)) x := by
      rw [List.take_add_one, hx, show (some x).toList = [x] from rfl, levelsO_add]
    have hqx := hsq x (List.mem_of_getElem? hx)
    have hqv := levels_pos (o := sl.take k) (fun o ho => hsq o (List.mem_of_mem_take ho)) (by simp; omega)
    have htl : ((sl.take k).length : Int) ≤ 1000000 := by simp; omega
    generalize hvl : levelsO (sl.take k) = v at hf5 hmk hstep hqv ⊢
    by_cases h0 : v.length = 0
    · have hv0 : v = [] := List.eq_nil_of_length_eq_zero h0
      have hadd : addLv v x = v ++ [⟨x.price, x.left⟩] := addLv_new (fun y hy => by rw [hv0] at hy; simp at hy)
      have hd2 : decide (((v.length : Nat) : Int) > 0) = false := by simp; omega
      repeat' (first
        | apply aw_seq | apply aw_region | apply aw_ret | apply aw_skip | apply aw_exit | apply aw_block | apply es_nil
        | (apply es_pure hT; (iterate 4 exact rfl)) | (apply es_skip; (iterate 3 exact rfl)) | (apply es_skip0; (iterate 2 exact rfl))
        | (apply es_i64 hT; (iterate 4 exact rfl); (iterate 2 omega))
        | (apply aw_draw [] [] hmix; decide +kernel)
        | (apply es_idx hT; (iterate 8 exact rfl); (iterate 2 omega); exact hA)
        | (apply es_load; (iterate 5 exact rfl); exact ld_elem hT rfl rfl (hfS.reads mem1) Order.enc_len rfl hx2 rfl)
        | (apply es_alloc hT; (iterate 5 exact rfl); intro g7)
        | (apply es_store hT; (iterate 6 exact rfl); exact sel0; (iterate 3 exact rfl); exact Nat.le_of_ble_eq_true rfl)
        | (apply es_build hT; (iterate 4 exact rfl))
        | (apply es_buildSlice hT; (iterate 12 exact rfl); intro g)
        | (apply es_append hT; (iterate 10 exact rfl); (first | exact sel0 | exact sel1 | exact selS sel1 | exact selS (selS sel1) | exact selS (selS (selS sel1)) | exact selS (selS (selS (selS sel1))) | exact selS (selS (selS (selS (selS sel1)))) | exact selS (selS (selS (selS (selS (selS sel1)))))); exact Reads.own mem0 rfl (Lvl.enc_one ⟨x.price, x.left⟩); omega; (show (_ : Nat) * 16 ≤ _; omega); intro A' c')
        | (apply es_load; (iterate 5 exact rfl); first | exact ld_blk hT rfl rfl mem0 rfl rfl | exact ld_all hT rfl rfl mem0 rfl)
        | (apply es_load; (iterate 5 exact rfl); first | exact ld_blk hT rfl rfl mem1 rfl rfl | exact ld_all hT rfl rfl mem1 rfl)
        | (apply es_load; (iterate 5 exact rfl); first | exact ld_blk hT rfl rfl mem2 rfl rfl | exact ld_all hT rfl rfl mem2 rfl)
        | (apply es_load; (iterate 5 exact rfl); first | exact ld_blk hT rfl rfl mem0 rfl rfl | exact ld_all hT rfl rfl mem0 rfl)
        | (apply es_load; (iterate 5 exact rfl); first | exact ld_blk hT rfl rfl (List.mem_cons_of_mem _ mem0) rfl rfl | exact ld_all hT rfl rfl (List.mem_cons_of_mem _ mem0) rfl)
        | (apply es_load; (iterate 5 exact rfl); first | exact ld_blk hT rfl rfl mem1 rfl rfl | exact ld_all hT rfl rfl mem1 rfl)
        | (apply es_load; (iterate 5 exact rfl); first | exact ld_blk hT rfl rfl (List.mem_cons_of_mem _ mem1) rfl rfl | exact ld_all hT rfl rfl (List.mem_cons_of_mem _ mem1) rfl)
        | (apply es_box; (iterate 5 exact rfl); intro _) | (apply es_alloc hT; (iterate 5 exact rfl); intro _)
        | (apply aw_condT; (iterate 2 exact rfl)) | (apply aw_condF; (iterate 2 exact rfl))
        | (apply es_case; exact rfl; all_goals intro hb; all_goals (try simp only [hb]); all_goals (first | replace hb := of_decide_eq_true hb | replace hb := of_decide_eq_false hb | replace hb := bne_t hb | replace hb := bne_f hb | skip); all_goals (try (exfalso; omega)))
        | (apply aw_cond; exact rfl; all_goals intro hb; all_goals (try simp only [hb]); all_goals (first | replace hb := of_decide_eq_true hb | replace hb := of_decide_eq_false hb | replace hb := bne_t hb | replace hb := bne_f hb | skip); all_goals (try (exfalso; omega))))
      all_goals first
        | (exfalso; omega)
        | (refine loopq_end (k + 1, A', c') (by dsimp only; omega) (by dsimp only; omega) ⟨by dsimp only; rw [hstep, hadd, List.length_append]; rfl, rfl, rfl, rfl, trivial⟩ ?_
           dsimp only
           rw [hstep, hadd, List.length_append, List.flatMap_append]
           apply dt_cons; (first | exact sel0 | exact sel1 | exact selS sel1 | exact selS (selS sel1) | exact selS (selS (selS sel1)) | exact selS (selS (selS (selS sel1))) | exact selS (selS (selS (selS (selS sel1)))) | exact selS (selS (selS (selS (selS (selS sel1))))))
           apply dt_cons; (first | exact sel0 | exact sel1 | exact selS sel1 | exact selS (selS sel1) | exact selS (selS (selS sel1)) | exact selS (selS (selS (selS sel1))) | exact selS (selS (selS (selS (selS sel1)))) | exact selS (selS (selS (selS (selS (selS sel1))))))
           (repeat (first | exact dt_end | apply dt_skip)))
        | (exfalso; simp_all; done)
    · obtain ⟨y, hy⟩ : ∃ y, v[v.length - 1]? = some y := ⟨v[v.length - 1]'(by omega), List.getElem?_eq_getElem (by omega)⟩
      have hy2 : v[((v.length : Int) - 1).toNat]? = some y := by rw [show ((v.length : Int) - 1).toNat = v.length - 1 by omega]; exact hy
      have hA5 := hf5.some_ (by omega)
      have hd2 : decide (((v.length : Nat) : Int) > 0) = true := by simp; omega
      have hqy := hqv y (List.mem_of_getElem? hy)
      by_cases hpp : y.price = x.price
      · have hadd := addLv_last (o := x) hy hpp
        have hlay : lay (v.flatMap Lvl.enc) (((v.length : Int) - 1).toNat * 2 + 1) [.int .i64 (y.qty + x.left)] = (addLv v x).flatMap Lvl.enc := by
          rw [hadd, show ((v.length : Int) - 1).toNat = v.length - 1 by omega, flat_lay Lvl.enc_len (x' := ⟨y.price, y.qty + x.left⟩) hy (Nat.le_of_ble_eq_true rfl) rfl]
        have hlen : (addLv v x).length = v.length := by rw [hadd]; simp
        repeat' (first
          | apply aw_seq | apply aw_region | apply aw_ret | apply aw_skip | apply aw_exit | apply aw_block | apply es_nil
          | (apply es_pure hT; (iterate 4 exact rfl)) | (apply es_skip; (iterate 3 exact rfl)) | (apply es_skip0; (iterate 2 exact rfl))
          | (apply es_i64 hT; (iterate 4 exact rfl); (iterate 2 omega))
          | (apply aw_draw [] [] hmix; decide +kernel)
          | (apply es_idx hT; (iterate 8 exact rfl); (iterate 2 omega); first | exact hA | exact hA5)
          | (apply es_load; (iterate 5 exact rfl); first | exact ld_elem hT rfl rfl (hfS.reads mem1) Order.enc_len rfl hx2 rfl | exact ld_fld hT rfl rfl (hf5.reads mem1) Lvl.enc_len (adr_add _ _ _) hy2 (by decide) rfl)
          | (apply es_alloc hT; (iterate 5 exact rfl); intro g7)
          | (apply es_store hT; (iterate 6 exact rfl); exact sel0; (iterate 3 exact rfl); exact Nat.le_of_ble_eq_true rfl)
          | (apply es_storeRow hT; (iterate 6 exact rfl); (first | exact sel0 | exact sel1 | exact selS sel1 | exact selS (selS sel1) | exact selS (selS (selS sel1)) | exact selS (selS (selS (selS sel1))) | exact selS (selS (selS (selS (selS sel1)))) | exact selS (selS (selS (selS (selS (selS sel1)))))); exact adr_add _ _ _; exact rfl; exact rfl; (show (((v.length : Int) - 1).toNat * 2 + 1) + 1 ≤ v.length * 2; omega); omega)
          | (apply es_load; (iterate 5 exact rfl); first | exact ld_blk hT rfl rfl mem0 rfl rfl | exact ld_all hT rfl rfl mem0 rfl)
          | (apply es_load; (iterate 5 exact rfl); first | exact ld_blk hT rfl rfl mem1 rfl rfl | exact ld_all hT rfl rfl mem1 rfl)
          | (apply es_load; (iterate 5 exact rfl); first | exact ld_blk hT rfl rfl mem2 rfl rfl | exact ld_all hT rfl rfl mem2 rfl)
          | (apply es_load; (iterate 5 exact rfl); first | exact ld_blk hT rfl rfl mem0 rfl rfl | exact ld_all hT rfl rfl mem0 rfl)
          | (apply es_load; (iterate 5 exact rfl); first | exact ld_blk hT rfl rfl (List.mem_cons_of_mem _ mem0) rfl rfl | exact ld_all hT rfl rfl (List.mem_cons_of_mem _ mem0) rfl)
          | (apply es_load; (iterate 5 exact rfl); first | exact ld_blk hT rfl rfl mem1 rfl rfl | exact ld_all hT rfl rfl mem1 rfl)
          | (apply es_load; (iterate 5 exact rfl); first | exact ld_blk hT rfl rfl (List.mem_cons_of_mem _ mem1) rfl rfl | exact ld_all hT rfl rfl (List.mem_cons_of_mem _ mem1) rfl)
          | (apply es_box; (iterate 5 exact rfl); intro _) | (apply es_alloc hT; (iterate 5 exact rfl); intro _)
          | (apply aw_condT; (iterate 2 exact rfl)) | (apply aw_condF; (iterate 2 exact rfl))
          | (apply es_case; exact rfl; all_goals intro hb; all_goals (try simp only [hb]); all_goals (first | replace hb := of_decide_eq_true hb | replace hb := of_decide_eq_false hb | replace hb := bne_t hb | replace hb := bne_f hb | skip); all_goals (try (exfalso; omega)))
          | (apply aw_cond; exact rfl; all_goals intro hb; all_goals (try simp only [hb]); all_goals (first | replace hb := of_decide_eq_true hb | replace hb := of_decide_eq_false hb | replace hb := bne_t hb | replace hb := bne_f hb | skip); all_goals (try (exfalso; omega))))
        all_goals first
          | (exfalso; omega)
          | (refine loopq_end (k + 1, A5, c5) (by dsimp only; omega) (by dsimp only; omega) ⟨by dsimp only; rw [hstep, hlen]; rfl, rfl, rfl, rfl, trivial⟩ ?_
             dsimp only
             rw [hstep, hlen, ← hlay]
             apply dt_cons; (first | exact sel0 | exact sel1 | exact selS sel1 | exact selS (selS sel1) | exact selS (selS (selS sel1)) | exact selS (selS (selS (selS sel1))) | exact selS (selS (selS (selS (selS sel1)))) | exact selS (selS (selS (selS (selS (selS sel1))))))
             apply dt_cons; (first | exact sel0 | exact sel1 | exact selS sel1 | exact selS (selS sel1) | exact selS (selS (selS sel1)) | exact selS (selS (selS (selS sel1))) | exact selS (selS (selS (selS (selS sel1)))) | exact selS (selS (selS (selS (selS (selS sel1))))))
             (repeat (first | exact dt_end | apply dt_skip)))
          | (exfalso; simp_all; done)
      · have hadd : addLv v x = v ++ [⟨x.price, x.left⟩] := addLv_new (fun z hz => by rw [hy] at hz; cases hz; exact hpp)
        repeat' (first
          | apply aw_seq | apply aw_region | apply aw_ret | apply aw_skip | apply aw_exit | apply aw_block | apply es_nil
          | (apply es_pure hT; (iterate 4 exact rfl)) | (apply es_skip; (iterate 3 exact rfl)) | (apply es_skip0; (iterate 2 exact rfl))
          | (apply es_i64 hT; (iterate 4 exact rfl); (iterate 2 omega))
          | (apply aw_draw [] [] hmix; decide +kernel)
          | (apply es_idx hT; (iterate 8 exact rfl); (iterate 2 omega); first | exact hA | exact hA5)
          | (apply es_load; (iterate 5 exact rfl); first | exact ld_elem hT rfl rfl (hfS.reads mem1) Order.enc_len rfl hx2 rfl | exact ld_fld hT rfl rfl (hf5.reads mem1) Lvl.enc_len (adr_add _ _ _) hy2 (by decide) rfl)
          | (apply es_alloc hT; (iterate 5 exact rfl); intro g7)
          | (apply es_store hT; (iterate 6 exact rfl); exact sel0; (iterate 3 exact rfl); exact Nat.le_of_ble_eq_true rfl)
          | (apply es_build hT; (iterate 4 exact rfl))
          | (apply es_buildSlice hT; (iterate 12 exact rfl); intro g)
          | (apply es_append hT; (iterate 10 exact rfl); (first | exact sel0 | exact sel1 | exact selS sel1 | exact selS (selS sel1) | exact selS (selS (selS sel1)) | exact selS (selS (selS (selS sel1))) | exact selS (selS (selS (selS (selS sel1)))) | exact selS (selS (selS (selS (selS (selS sel1)))))); exact Reads.own mem0 rfl (Lvl.enc_one ⟨x.price, x.left⟩); omega; (show (_ : Nat) * 16 ≤ _; omega); intro A' c')
          | (apply es_load; (iterate 5 exact rfl); first | exact ld_blk hT rfl rfl mem0 rfl rfl | exact ld_all hT rfl rfl mem0 rfl)
          | (apply es_load; (iterate 5 exact rfl); first | exact ld_blk hT rfl rfl mem1 rfl rfl | exact ld_all hT rfl rfl mem1 rfl)
          | (apply es_load; (iterate 5 exact rfl); first | exact ld_blk hT rfl rfl mem2 rfl rfl | exact ld_all hT rfl rfl mem2 rfl)
          | (apply es_load; (iterate 5 exact rfl); first | exact ld_blk hT rfl rfl mem0 rfl rfl | exact ld_all hT rfl rfl mem0 rfl)
          | (apply es_load; (iterate 5 exact rfl); first | exact ld_blk hT rfl rfl (List.mem_cons_of_mem _ mem0) rfl rfl | exact ld_all hT rfl rfl (List.mem_cons_of_mem _ mem0) rfl)
          | (apply es_load; (iterate 5 exact rfl); first | exact ld_blk hT rfl rfl mem1 rfl rfl | exact ld_all hT rfl rfl mem1 rfl)
          | (apply es_load; (iterate 5 exact rfl); first | exact ld_blk hT rfl rfl (List.mem_cons_of_mem _ mem1) rfl rfl | exact ld_all hT rfl rfl (List.mem_cons_of_mem _ mem1) rfl)
          | (apply es_box; (iterate 5 exact rfl); intro _) | (apply es_alloc hT; (iterate 5 exact rfl); intro _)
          | (apply aw_condT; (iterate 2 exact rfl)) | (apply aw_condF; (iterate 2 exact rfl))
          | (apply es_case; exact rfl; all_goals intro hb; all_goals (try simp only [hb]); all_goals (first | replace hb := of_decide_eq_true hb | replace hb := of_decide_eq_false hb | replace hb := bne_t hb | replace hb := bne_f hb | skip); all_goals (try (exfalso; omega)))
          | (apply aw_cond; exact rfl; all_goals intro hb; all_goals (try simp only [hb]); all_goals (first | replace hb := of_decide_eq_true hb | replace hb := of_decide_eq_false hb | replace hb := bne_t hb | replace hb := bne_f hb | skip); all_goals (try (exfalso; omega))))
        all_goals first
          | (exfalso; omega)
          | (refine loopq_end (k + 1, A', c') (by dsimp only; omega) (by dsimp only; omega) ⟨by dsimp only; rw [hstep, hadd, List.length_append]; rfl, rfl, rfl, rfl, trivial⟩ ?_
             dsimp only
             rw [hstep, hadd, List.length_append, List.flatMap_append]
             apply dt_cons; (first | exact sel0 | exact sel1 | exact selS sel1 | exact selS (selS sel1) | exact selS (selS (selS sel1)) | exact selS (selS (selS (selS sel1))) | exact selS (selS (selS (selS (selS sel1)))) | exact selS (selS (selS (selS (selS (selS sel1))))))
             apply dt_cons; (first | exact sel0 | exact sel1 | exact selS sel1 | exact selS (selS sel1) | exact selS (selS (selS sel1)) | exact selS (selS (selS (selS sel1))) | exact selS (selS (selS (selS (selS sel1)))) | exact selS (selS (selS (selS (selS (selS sel1))))))
             (repeat (first | exact dt_end | apply dt_skip)))
          | (exfalso; simp_all; done)
  · obtain rfl : k = sl.length := by omega
    have hd1 : decide ((sl.length : Int) < (sl.length : Int)) = false := by simp
    rw [List.take_length] at hf5 ⊢
    repeat' (first
      | apply aw_seq | apply aw_region | apply aw_ret | apply aw_skip | apply aw_exit | apply aw_block | apply es_nil
      | (apply es_pure hT; (iterate 4 exact rfl)) | (apply es_skip; (iterate 3 exact rfl)) | (apply es_skip0; (iterate 2 exact rfl))
      | (apply es_i64 hT; (iterate 4 exact rfl); (iterate 2 omega))
      | (apply aw_draw [] [] hmix; decide +kernel)
      | (apply es_load; (iterate 5 exact rfl); first | exact ld_blk hT rfl rfl mem0 rfl rfl | exact ld_all hT rfl rfl mem0 rfl)
      | (apply es_load; (iterate 5 exact rfl); first | exact ld_blk hT rfl rfl mem1 rfl rfl | exact ld_all hT rfl rfl mem1 rfl)
      | (apply es_load; (iterate 5 exact rfl); first | exact ld_blk hT rfl rfl mem2 rfl rfl | exact ld_all hT rfl rfl mem2 rfl)
      | (apply es_box; (iterate 5 exact rfl); intro _) | (apply es_alloc hT; (iterate 5 exact rfl); intro _)
      | (apply aw_condT; (iterate 2 exact rfl)) | (apply aw_condF; (iterate 2 exact rfl))
      | (apply es_case; exact rfl; all_goals intro hb; all_goals (try simp only [hb]); all_goals (first | replace hb := of_decide_eq_true hb | replace hb := of_decide_eq_false hb | replace hb := bne_t hb | replace hb := bne_f hb | skip); all_goals (try (exfalso; omega)))
      | (apply aw_cond; exact rfl; all_goals intro hb; all_goals (try simp only [hb]); all_goals (first | replace hb := of_decide_eq_true hb | replace hb := of_decide_eq_false hb | replace hb := bne_t hb | replace hb := bne_f hb | skip); all_goals (try (exfalso; omega))))
    apply ret1; exact rfl
    exact ⟨.own A5 (levelsO sl).length c5 151 2 ((levelsO sl).flatMap Lvl.enc) :: h, by apply dt_cons; (first | exact sel0 | exact sel1 | exact selS sel1 | exact selS (selS sel1) | exact selS (selS (selS sel1)) | exact selS (selS (selS (selS sel1))) | exact selS (selS (selS (selS (selS sel1)))) | exact selS (selS (selS (selS (selS (selS sel1)))))); (repeat (first | exact dt_end | apply dt_skip)), fun w hw => ⟨A5, c5, rfl, rfl, hf5⟩⟩
end Go.Proofs.YtjcnaeengplcbaaGreat

set_option linter.unusedSimpArgs false
set_option linter.unusedVariables false
namespace Go.Proofs.YtjcnaeengplcbaaGreat
open Go Go.Sl
attribute [local irreducible] AW ES EP Ld RetQ
set_option maxRecDepth 100000

structure BookB (l : List Order) : Prop where
  seq : uqSeq l
  id : l.Pairwise fun a b => a.id ≠ b.id
  ok : ∀ o ∈ l, okO o = true
  len : l.length ≤ 64
theorem BookB.nil : BookB [] := ⟨List.Pairwise.nil, List.Pairwise.nil, (fun o h => by cases h), Nat.zero_le _⟩
theorem okO_side {o : Order} (h : okO o = true) : isB o.side = true := by simp only [okO, Bool.and_eq_true] at h; exact h.2
theorem okO_left {o : Order} (h : okO o = true) : 1 ≤ o.left ∧ o.left ≤ 1000000 := by
  simp only [okO, Bool.and_eq_true, decide_eq_true_eq] at h
  exact ⟨h.1.1.1.2, h.1.1.2⟩
theorem BookB.side {l : List Order} (h : BookB l) : ∀ o ∈ l, isB o.side = true := fun o ho => okO_side (h.ok o ho)
theorem BookB.left {l : List Order} (h : BookB l) : ∀ o ∈ l, 1 ≤ o.left ∧ o.left ≤ 1000000 := fun o ho => okO_left (h.ok o ho)
theorem BookB.le {l : List Order} (h : BookB l) : l.length ≤ 1000000 := by have := h.len; omega
theorem BookB.add {l : List Order} (h : BookB l) (o : Order) : BookB (addO o l) := by
  unfold addO
  split
  · rename_i h0
    have hE := h0
    unfold addOE at hE
    have h1 : ¬ (okO o = false ∨ idxOf (clashO o) l ≥ 0) := fun hh => by rw [if_pos hh] at hE; omega
    rw [if_neg h1] at hE
    have h2 : ¬ l.length ≥ 64 := fun hh => by rw [if_pos hh] at hE; omega
    have hno : ∀ x ∈ l, clashO o x = false := idxOf_neg'.1 (by omega)
    have hok : okO o = true := by
      cases hh : okO o
      · exact absurd (.inl hh) h1
      · rfl
    have hne : ∀ x ∈ l, x.id ≠ o.id ∧ x.seq ≠ o.seq := fun x hx => by
      have := hno x hx
      simp only [clashO, Bool.or_eq_false_iff, beq_eq_false_iff_ne] at this
      exact this
    refine ⟨?_, ?_, ?_, by simp; omega⟩
    · unfold uqSeq
      rw [List.pairwise_append]
      exact ⟨h.seq, by simp, fun a ha b hb => by rw [List.mem_singleton.1 hb]; exact (hne a ha).2⟩
    · rw [List.pairwise_append]
      exact ⟨h.id, by simp, fun a ha b hb => by rw [List.mem_singleton.1 hb]; exact (hne a ha).1⟩
    · intro x hx
      rcases List.mem_append.1 hx with hx | hx
      · exact h.ok x hx
      · rw [List.mem_singleton.1 hx]; exact hok
  · exact h
theorem sOKOrder : structOK Tryz.prog 82 := ⟨by kernel_rfl, by kernel_rfl⟩

end Go.Proofs.YtjcnaeengplcbaaGreat

set_option linter.unusedSimpArgs false
set_option linter.unusedVariables false
namespace Go.Proofs.YtjcnaeengplcbaaGreat
open Go Go.Sl
attribute [local irreducible] AW ES EP Ld RetQ
set_option maxRecDepth 100000

theorem ref14_SameO (W : World) (h : List Chunk) (A1 A2 : Option Addr) (c1 c2 : Nat) (l1 l2 : List Order) (hr1 : Reads W h A1 l1.length 6 (l1.flatMap Order.enc)) (hr2 : Reads W h A2 l2.length 6 (l2.flatMap Order.enc)) (hb : l1.length ≤ 1000000) :
    QSpec Tryz.prog W 58 [.slice A1 l1.length c1, .slice A2 l2.length c2] h (.bool (decide (l1 = l2))) := by
  refine QSpec.ofD (fun h' hs => ?_)
  have hr1 := hr1.mono hs
  have hr2 := hr2.mono hs
  refine spec_body Tryz.func58 rfl rfl Tryz.results58 Tryz.ntmps58 rfl rfl ?_
  refine aw_reads hr1 (by rfl) (fun hA1 => ?_)
  refine aw_reads hr2 (by rfl) (fun hA2 => ?_)
  by_cases hl : l1.length = l2.length
  · have hd : ((l1.length : Int) != (l2.length : Int)) = false := by simp [hl]
    repeat' (first
      | apply aw_seq | apply aw_region | apply aw_ret | apply aw_skip | apply aw_exit | apply aw_block | apply es_nil
      | (apply es_pure hT; (iterate 4 exact rfl)) | (apply es_skip; (iterate 3 exact rfl)) | (apply es_skip0; (iterate 2 exact rfl))
      | (apply es_i64 hT; (iterate 4 exact rfl); (iterate 2 omega))
      | (apply aw_draw [] [] hmix; decide +kernel)
      | (apply es_load; (iterate 5 exact rfl); first | exact ld_blk hT rfl rfl mem0 rfl rfl | exact ld_all hT rfl rfl mem0 rfl)
      | (apply es_load; (iterate 5 exact rfl); first | exact ld_blk hT rfl rfl mem1 rfl rfl | exact ld_all hT rfl rfl mem1 rfl)
      | (apply es_load; (iterate 5 exact rfl); first | exact ld_blk hT rfl rfl mem2 rfl rfl | exact ld_all hT rfl rfl mem2 rfl)
      | (apply es_box; (iterate 5 exact rfl); intro _) | (apply es_alloc hT; (iterate 5 exact rfl); intro _)
      | (apply aw_condT; (iterate 2 exact rfl)) | (apply aw_condF; (iterate 2 exact rfl))
      | (apply es_case; exact rfl; all_goals intro hb; all_goals (try simp only [hb]); all_goals (first | replace hb := of_decide_eq_true hb | replace hb := of_decide_eq_false hb | replace hb := bne_t hb | replace hb := bne_f hb | skip); all_goals (try (exfalso; omega)))
      | (apply aw_cond; exact rfl; all_goals intro hb; all_goals (try simp only [hb]); all_goals (first | replace hb := of_decide_eq_true hb | replace hb := of_decide_eq_false hb | replace hb := bne_t hb | replace hb := bne_f hb | skip); all_goals (try (exfalso; omega))))
    refine aw_loop (α := Nat) (E := fun k => [(0, .slice A1 l1.length c1), (1, .slice A2 l2.length c2), (5, .int .i64 k)]) (H := fun _ => h') (μ := fun k => l1.length - k)
      (S := fun k => k ≤ l1.length ∧ l1.take k = l2.take k) 0 (J := []) ⟨Nat.zero_le _, rfl⟩ ⟨rfl, rfl, rfl, trivial⟩ (List.Perm.refl _) ?_
    rintro k ⟨hk, he⟩
    by_cases hlt : k < l1.length
    · obtain ⟨x, hx⟩ : ∃ x, l1[k]? = some x := ⟨l1[k]'(by omega), List.getElem?_eq_getElem (by omega)⟩
      obtain ⟨y, hy⟩ : ∃ y, l2[k]? = some y := ⟨l2[k]'(by omega), List.getElem?_eq_getElem (by omega)⟩
      have hx2 : l1[(k : Int).toNat]? = some x := by simpa using hx
      have hy2 : l2[(k : Int).toNat]? = some y := by simpa using hy
      have hA1 := hA1 (by omega)
      have hA2 := hA2 (by omega)
      have hd1 : decide ((k : Int) < (l1.length : Int)) = true := by simp; omega
      repeat' (first
        | apply aw_seq | apply aw_region | apply aw_ret | apply aw_skip | apply aw_exit | apply aw_block | apply es_nil
        | (apply es_pure hT; (iterate 4 exact rfl)) | (apply es_skip; (iterate 3 exact rfl)) | (apply es_skip0; (iterate 2 exact rfl))
        | (apply es_i64 hT; (iterate 4 exact rfl); (iterate 2 omega))
        | (apply aw_draw [] [] hmix; decide +kernel)
        | (apply es_idx hT; (iterate 8 exact rfl); (iterate 2 omega); first | exact hA1 | exact hA2)
        | (apply es_load; (iterate 5 exact rfl); first | exact ld_elem hT rfl rfl hr1 Order.enc_len rfl hx2 rfl | exact ld_elem hT rfl rfl hr2 Order.enc_len rfl hy2 rfl)
        | (apply es_neS hT; (iterate 5 exact rfl); exact rfl; exact sOKOrder)
        | (apply es_load; (iterate 5 exact rfl); first | exact ld_blk hT rfl rfl mem0 rfl rfl | exact ld_all hT rfl rfl mem0 rfl)
        | (apply es_load; (iterate 5 exact rfl); first | exact ld_blk hT rfl rfl mem1 rfl rfl | exact ld_all hT rfl rfl mem1 rfl)
        | (apply es_load; (iterate 5 exact rfl); first | exact ld_blk hT rfl rfl mem2 rfl rfl | exact ld_all hT rfl rfl mem2 rfl)
        | (apply es_box; (iterate 5 exact rfl); intro _) | (apply es_alloc hT; (iterate 5 exact rfl); intro _)
        | (apply aw_condT; (iterate 2 exact rfl)) | (apply aw_condF; (iterate 2 exact rfl))
        | (apply es_case; exact rfl; all_goals intro hb; all_goals (try simp only [hb]); all_goals (first | replace hb := of_decide_eq_true hb | replace hb := of_decide_eq_false hb | replace hb := bne_t hb | replace hb := bne_f hb | skip); all_goals (try (exfalso; omega)))
        | (apply aw_cond; exact rfl; all_goals intro hb; all_goals (try simp only [hb]); all_goals (first | replace hb := of_decide_eq_true hb | replace hb := of_decide_eq_false hb | replace hb := bne_t hb | replace hb := bne_f hb | skip); all_goals (try (exfalso; omega))))
      · have hxy : x ≠ y := fun e => by subst e; simp at hb
        apply ret1; exact rfl
        refine ⟨?_, dt_end⟩
        rw [decide_eq_false (fun e => hxy (by rw [e, hy] at hx; exact (Option.some.inj hx).symm))]
      · have hxy : x = y := by cases x; cases y; simpa [and_assoc] using hb
        exact ⟨k + 1, [], by dsimp only; omega, ⟨by omega, by rw [List.take_add_one, List.take_add_one, he, hx, hy, hxy]⟩, ⟨rfl, rfl, rfl, trivial⟩, List.Perm.refl _⟩
    · have hd1 : decide ((k : Int) < (l1.length : Int)) = false := by simp; omega
      obtain rfl : k = l1.length := by omega
      repeat' (first
        | apply aw_seq | apply aw_region | apply aw_ret | apply aw_skip | apply aw_exit | apply aw_block | apply es_nil
        | (apply es_pure hT; (iterate 4 exact rfl)) | (apply es_skip; (iterate 3 exact rfl)) | (apply es_skip0; (iterate 2 exact rfl))
        | (apply es_i64 hT; (iterate 4 exact rfl); (iterate 2 omega))
        | (apply aw_draw [] [] hmix; decide +kernel)
        | (apply es_load; (iterate 5 exact rfl); first | exact ld_blk hT rfl rfl mem0 rfl rfl | exact ld_all hT rfl rfl mem0 rfl)
        | (apply es_load; (iterate 5 exact rfl); first | exact ld_blk hT rfl rfl mem1 rfl rfl | exact ld_all hT rfl rfl mem1 rfl)
        | (apply es_load; (iterate 5 exact rfl); first | exact ld_blk hT rfl rfl mem2 rfl rfl | exact ld_all hT rfl rfl mem2 rfl)
        | (apply es_box; (iterate 5 exact rfl); intro _) | (apply es_alloc hT; (iterate 5 exact rfl); intro _)
        | (apply aw_condT; (iterate 2 exact rfl)) | (apply aw_condF; (iterate 2 exact rfl))
        | (apply es_case; exact rfl; all_goals intro hb; all_goals (try simp only [hb]); all_goals (first | replace hb := of_decide_eq_true hb | replace hb := of_decide_eq_false hb | replace hb := bne_t hb | replace hb := bne_f hb | skip); all_goals (try (exfalso; omega)))
        | (apply aw_cond; exact rfl; all_goals intro hb; all_goals (try simp only [hb]); all_goals (first | replace hb := of_decide_eq_true hb | replace hb := of_decide_eq_false hb | replace hb := bne_t hb | replace hb := bne_f hb | skip); all_goals (try (exfalso; omega))))
      apply ret1; exact rfl
      refine ⟨?_, dt_end⟩
      rw [decide_eq_true (show l1 = l2 by rw [List.take_length] at he; rw [he, hl, List.take_length])]
  · have hd : ((l1.length : Int) != (l2.length : Int)) = true := by simp; omega
    repeat' (first
      | apply aw_seq | apply aw_region | apply aw_ret | apply aw_skip | apply aw_exit | apply aw_block | apply es_nil
      | (apply es_pure hT; (iterate 4 exact rfl)) | (apply es_skip; (iterate 3 exact rfl)) | (apply es_skip0; (iterate 2 exact rfl))
      | (apply es_i64 hT; (iterate 4 exact rfl); (iterate 2 omega))
      | (apply aw_draw [] [] hmix; decide +kernel)
      | (apply es_load; (iterate 5 exact rfl); first | exact ld_blk hT rfl rfl mem0 rfl rfl | exact ld_all hT rfl rfl mem0 rfl)
      | (apply es_load; (iterate 5 exact rfl); first | exact ld_blk hT rfl rfl mem1 rfl rfl | exact ld_all hT rfl rfl mem1 rfl)
      | (apply es_load; (iterate 5 exact rfl); first | exact ld_blk hT rfl rfl mem2 rfl rfl | exact ld_all hT rfl rfl mem2 rfl)
      | (apply es_box; (iterate 5 exact rfl); intro _) | (apply es_alloc hT; (iterate 5 exact rfl); intro _)
      | (apply aw_condT; (iterate 2 exact rfl)) | (apply aw_condF; (iterate 2 exact rfl))
      | (apply es_case; exact rfl; all_goals intro hb; all_goals (try simp only [hb]); all_goals (first | replace hb := of_decide_eq_true hb | replace hb := of_decide_eq_false hb | replace hb := bne_t hb | replace hb := bne_f hb | skip); all_goals (try (exfalso; omega)))
      | (apply aw_cond; exact rfl; all_goals intro hb; all_goals (try simp only [hb]); all_goals (first | replace hb := of_decide_eq_true hb | replace hb := of_decide_eq_false hb | replace hb := bne_t hb | replace hb := bne_f hb | skip); all_goals (try (exfalso; omega))))
    apply ret1; exact rfl
    refine ⟨?_, dt_end⟩
    rw [decide_eq_false (fun e => hl (by rw [e]))]

theorem decOrder (vs : List Value) (h : FitsL [.int .i64, .int .i64, .int .i64, .int .i64, .int .i64, .int .i64] vs) : ∃ x : Order, Order.enc x = vs ∧ True := by
  have hlen : vs.length = 6 := h.len
  match vs, hlen, h with
  | [u0, u1, u2, u3, u4, u5], _, h =>
    obtain ⟨a0, h0, _⟩ := h.1
    obtain ⟨a1, h1, _⟩ := h.2.1
    obtain ⟨a2, h2, _⟩ := h.2.2.1
    obtain ⟨a3, h3, _⟩ := h.2.2.2.1
    obtain ⟨a4, h4, _⟩ := h.2.2.2.2.1
    obtain ⟨a5, h5, _⟩ := h.2.2.2.2.2.1
    exact ⟨⟨a0, a1, a2, a3, a4, a5⟩, by rw [h0, h1, h2, h3, h4, h5]; rfl, trivial⟩

end Go.Proofs.YtjcnaeengplcbaaGreat

set_option linter.unusedSimpArgs false
set_option linter.unusedVariables false
namespace Go.Proofs.YtjcnaeengplcbaaGreat
open Go Go.Sl
attribute [local irreducible] AW ES EP Ld RetQ
set_option maxRecDepth 100000

/-- less of one order: in a side, too -/
def lf (id left : Int) (x : Order) : Order := if x.id = id then { x with left := left } else x
theorem lessO_map {id left : Int} {l : List Order} (hu : l.Pairwise fun a b => a.id ≠ b.id) (hE : lessE id left l = 0) : lessO id left l = l.map (lf id left) := by
  rcases find_at (p := hasO id) l with ⟨hi, hf⟩ | ⟨i, x, hi, hx, hp, hf⟩
  · simp [lessE, getO, hf] at hE
  · have hg : getO id l = some x := hf
    have hL : lessO id left l = l.set i { x with left := left } := by simp [lessO, hg, hE, hi]
    rw [hL]
    have hxi : x.id = id := by simpa [hasO] using hp
    obtain ⟨hlt, hxe⟩ := List.getElem?_eq_some_iff.1 hx
    apply List.ext_getElem?
    intro j
    rw [List.getElem?_map]
    by_cases hij : i = j
    · subst hij
      rw [hx, List.getElem?_set_self hlt]; simp [lf, hxi]
    · rw [List.getElem?_set_ne hij]
      cases hy : l[j]? with
      | none => rfl
      | some y =>
        simp only [Option.map_some]
        obtain ⟨hjl, hye⟩ := List.getElem?_eq_some_iff.1 hy
        have hne : y.id ≠ x.id := by
          rcases Nat.lt_or_gt_of_ne hij with h | h
          · have := List.pairwise_iff_getElem.1 hu i j hlt hjl h
            rw [hxe, hye] at this; exact fun e => this e.symm
          · have := List.pairwise_iff_getElem.1 hu j i hjl hlt h
            rw [hxe, hye] at this; exact this
        rw [lf, if_neg (by rw [← hxi]; exact hne)]
theorem BookB.less {l : List Order} (h : BookB l) {id left : Int} (hE : lessE id left l = 0) : BookB (lessO id left l) := by
  rw [lessO_map h.id hE]
  have hq : 1 ≤ left ∧ ∀ x ∈ l, x.id = id → left ≤ x.left := by
    rcases find_at (p := hasO id) l with ⟨hi, hf⟩ | ⟨i, x, hi, hx, hp, hf⟩
    · simp [lessE, getO, hf] at hE
    · have hg : getO id l = some x := hf
      have hb : ¬ (left < 1 ∨ left > x.left) := fun hh => by simp [lessE, hg, hh] at hE
      refine ⟨by omega, fun y hy hyi => ?_⟩
      have hxi : x.id = id := by simpa [hasO] using hp
      obtain ⟨j, hj⟩ := List.getElem?_of_mem hy
      obtain ⟨hlt, hxe⟩ := List.getElem?_eq_some_iff.1 hx
      obtain ⟨hjl, hye⟩ := List.getElem?_eq_some_iff.1 hj
      rcases Nat.lt_trichotomy i j with h' | h' | h'
      · have := List.pairwise_iff_getElem.1 h.id i j hlt hjl h'
        rw [hxe, hye] at this; omega
      · subst h'; rw [hxe] at hye; rw [← hye]; omega
      · have := List.pairwise_iff_getElem.1 h.id j i hjl hlt h'
        rw [hxe, hye] at this; omega
  have k : ∀ x : Order, (lf id left x).id = x.id ∧ (lf id left x).seq = x.seq := fun x => by unfold lf; split <;> exact ⟨rfl, rfl⟩
  refine ⟨?_, ?_, ?_, by simpa using h.len⟩
  · unfold uqSeq; rw [List.pairwise_map]; exact h.seq.imp (fun {a b} hab => by rw [(k a).2, (k b).2]; exact hab)
  · rw [List.pairwise_map]; exact h.id.imp (fun {a b} hab => by rw [(k a).1, (k b).1]; exact hab)
  · intro o ho
    obtain ⟨x, hx, rfl⟩ := List.mem_map.1 ho
    have hok := h.ok x hx
    have hl := h.left x hx
    unfold lf
    split
    · rename_i hxi
      have := hq.2 x hx hxi
      simp only [okO, Bool.and_eq_true, decide_eq_true_eq] at hok ⊢
      obtain ⟨⟨⟨⟨⟨⟨⟨a1, a2⟩, a3⟩, a4⟩, a5⟩, a6⟩, a7⟩, a8⟩ := hok
      exact ⟨⟨⟨⟨⟨⟨⟨a1, a2⟩, a3⟩, a4⟩, hq.1⟩, by omega⟩, a7⟩, a8⟩
    · exact hok

end Go.Proofs.YtjcnaeengplcbaaGreat

set_option linter.unusedSimpArgs false
set_option linter.unusedVariables false
namespace Go.Proofs.YtjcnaeengplcbaaGreat
open Go Go.Sl
attribute [local irreducible] AW ES EP Ld RetQ
set_option maxRecDepth 100000

theorem ref2_Is (W : World) (s : Int) : QSpec Tryz.prog W 122 [.int .i64 s] [] (.bool (isB s)) := by
  refine QSpec.ofD (fun h' hs => ?_)
  refine spec_body Tryz.func122 rfl rfl Tryz.results122 Tryz.ntmps122 rfl rfl ?_
  repeat' (first
    | apply aw_seq | apply aw_region | apply aw_ret | apply aw_skip | apply aw_exit | apply aw_block | apply es_nil
    | (apply es_pure hT; (iterate 4 exact rfl)) | (apply es_skip; (iterate 3 exact rfl)) | (apply es_skip0; (iterate 2 exact rfl))
    | (apply es_i64 hT; (iterate 4 exact rfl); (iterate 2 omega))
    | (apply aw_draw [] [] hmix; decide +kernel)
    | (apply es_load; (iterate 5 exact rfl); first | exact ld_blk hT rfl rfl mem0 rfl rfl | exact ld_all hT rfl rfl mem0 rfl)
    | (apply es_load; (iterate 5 exact rfl); first | exact ld_blk hT rfl rfl mem1 rfl rfl | exact ld_all hT rfl rfl mem1 rfl)
    | (apply es_load; (iterate 5 exact rfl); first | exact ld_blk hT rfl rfl mem2 rfl rfl | exact ld_all hT rfl rfl mem2 rfl)
    | (apply es_box; (iterate 5 exact rfl); intro _) | (apply es_alloc hT; (iterate 5 exact rfl); intro _)
    | (apply aw_condT; (iterate 2 exact rfl)) | (apply aw_condF; (iterate 2 exact rfl))
    | (apply es_case; exact rfl; all_goals intro hb; all_goals (try simp only [hb]); all_goals (first | replace hb := of_decide_eq_true hb | replace hb := of_decide_eq_false hb | replace hb := bne_t hb | replace hb := bne_f hb | skip); all_goals (try (exfalso; omega)))
    | (apply aw_cond; exact rfl; all_goals intro hb; all_goals (try simp only [hb]); all_goals (first | replace hb := of_decide_eq_true hb | replace hb := of_decide_eq_false hb | replace hb := bne_t hb | replace hb := bne_f hb | skip); all_goals (try (exfalso; omega))))
  all_goals
    apply ret1; exact rfl
    refine ⟨?_, dt_end⟩
    simp [isB, *]
theorem ref2_Better (W : World) (s a b : Int) : QSpec Tryz.prog W 144 [.int .i64 s, .int .i64 a, .int .i64 b] [] (.bool (betterB s a b)) := by
  refine QSpec.ofD (fun h' hs => ?_)
  refine spec_body Tryz.func144 rfl rfl Tryz.results144 Tryz.ntmps144 rfl rfl ?_
  repeat' (first
    | apply aw_seq | apply aw_region | apply aw_ret | apply aw_skip | apply aw_exit | apply aw_block | apply es_nil
    | (apply es_pure hT; (iterate 4 exact rfl)) | (apply es_skip; (iterate 3 exact rfl)) | (apply es_skip0; (iterate 2 exact rfl))
    | (apply es_i64 hT; (iterate 4 exact rfl); (iterate 2 omega))
    | (apply aw_draw [] [] hmix; decide +kernel)
    | (apply es_load; (iterate 5 exact rfl); first | exact ld_blk hT rfl rfl mem0 rfl rfl | exact ld_all hT rfl rfl mem0 rfl)
    | (apply es_load; (iterate 5 exact rfl); first | exact ld_blk hT rfl rfl mem1 rfl rfl | exact ld_all hT rfl rfl mem1 rfl)
    | (apply es_load; (iterate 5 exact rfl); first | exact ld_blk hT rfl rfl mem2 rfl rfl | exact ld_all hT rfl rfl mem2 rfl)
    | (apply es_box; (iterate 5 exact rfl); intro _) | (apply es_alloc hT; (iterate 5 exact rfl); intro _)
    | (apply aw_condT; (iterate 2 exact rfl)) | (apply aw_condF; (iterate 2 exact rfl))
    | (apply es_case; exact rfl; all_goals intro hb; all_goals (try simp only [hb]); all_goals (first | replace hb := of_decide_eq_true hb | replace hb := of_decide_eq_false hb | replace hb := bne_t hb | replace hb := bne_f hb | skip); all_goals (try (exfalso; omega)))
    | (apply aw_cond; exact rfl; all_goals intro hb; all_goals (try simp only [hb]); all_goals (first | replace hb := of_decide_eq_true hb | replace hb := of_decide_eq_false hb | replace hb := bne_t hb | replace hb := bne_f hb | skip); all_goals (try (exfalso; omega))))
  all_goals
    apply ret1; exact rfl
    refine ⟨?_, dt_end⟩
    simp [betterB, *]

section
variable {P : Program} {W : World} {T : Tab} {N : Nat} {env : Env} {h : List Chunk} {kf : KF} {ops : Array Oper} {K : Env → List Chunk → Prop} {rest : List Oper}
end
/-! ### sums, and levels by price -/
end Go.Proofs.YtjcnaeengplcbaaGreat

set_option linter.unusedSimpArgs false
set_option linter.unusedVariables false
namespace Go.Proofs.YtjcnaeengplcbaaGreat
open Go Go.Sl
attribute [local irreducible] AW ES EP Ld RetQ
set_option maxRecDepth 100000

def refB (q : Nat) (A : Option Addr) (c : Nat) (l : List Order) (F : List Chunk) : List Chunk :=
  .blk q 97 [.slice A l.length c] :: .own A l.length c 82 6 (l.flatMap Order.enc) :: F

theorem ref14_May (W : World) (o : Order) : QSpec Tryz.prog W 142 [.agg o.enc.toArray] [] (.bool (okO o)) := by
  refine QSpec.ofD (fun h' hs => ?_)
  refine spec_body Tryz.func142 rfl rfl Tryz.results142 Tryz.ntmps142 rfl rfl ?_
  repeat' (first
    | apply aw_seq | apply aw_region | apply aw_ret | apply aw_skip | apply aw_exit | apply aw_block | apply es_nil
    | (apply es_pure hT; (iterate 4 exact rfl)) | (apply es_skip; (iterate 3 exact rfl)) | (apply es_skip0; (iterate 2 exact rfl))
    | (apply es_i64 hT; (iterate 4 exact rfl); (iterate 2 omega))
    | (apply aw_draw [] [] hmix; decide +kernel)
    | (apply es_callQ (hs := ((ref2_Is W _).mono (by simp))); (iterate 7 exact rfl))
    | (apply es_load; (iterate 5 exact rfl); first | exact ld_blk hT rfl rfl mem0 rfl rfl | exact ld_all hT rfl rfl mem0 rfl)
    | (apply es_load; (iterate 5 exact rfl); first | exact ld_blk hT rfl rfl mem1 rfl rfl | exact ld_all hT rfl rfl mem1 rfl)
    | (apply es_load; (iterate 5 exact rfl); first | exact ld_blk hT rfl rfl mem2 rfl rfl | exact ld_all hT rfl rfl mem2 rfl)
    | (apply es_box; (iterate 5 exact rfl); intro _) | (apply es_alloc hT; (iterate 5 exact rfl); intro _)
    | (apply aw_condT; (iterate 2 exact rfl)) | (apply aw_condF; (iterate 2 exact rfl))
    | (apply es_case; exact rfl; all_goals intro hb; all_goals (try simp only [hb]); all_goals (first | replace hb := of_decide_eq_true hb | replace hb := of_decide_eq_false hb | replace hb := bne_t hb | replace hb := bne_f hb | skip); all_goals (try (exfalso; omega)))
    | (apply aw_cond; exact rfl; all_goals intro hb; all_goals (try simp only [hb]); all_goals (first | replace hb := of_decide_eq_true hb | replace hb := of_decide_eq_false hb | replace hb := bne_t hb | replace hb := bne_f hb | skip); all_goals (try (exfalso; omega))))
  all_goals
    apply ret1; exact rfl
    refine ⟨?_, dt_skip dt_end⟩
    simp [okO, *]
theorem ref14_ahead (W : World) (a b : Order) : QSpec Tryz.prog W 128 [.agg a.enc.toArray, .agg b.enc.toArray] [] (.bool (aheadS a.side a b)) := by
  refine QSpec.ofD (fun h' hs => ?_)
  refine spec_body Tryz.func128 rfl rfl Tryz.results128 Tryz.ntmps128 rfl rfl ?_
  repeat' (first
    | apply aw_seq | apply aw_region | apply aw_ret | apply aw_skip | apply aw_exit | apply aw_block | apply es_nil
    | (apply es_pure hT; (iterate 4 exact rfl)) | (apply es_skip; (iterate 3 exact rfl)) | (apply es_skip0; (iterate 2 exact rfl))
    | (apply es_i64 hT; (iterate 4 exact rfl); (iterate 2 omega))
    | (apply aw_draw [] [] hmix; decide +kernel)
    | (apply es_callQ (hs := ((ref2_Better W _ _ _).mono (by simp))); (iterate 7 exact rfl))
    | (apply es_load; (iterate 5 exact rfl); first | exact ld_blk hT rfl rfl mem0 rfl rfl | exact ld_all hT rfl rfl mem0 rfl)
    | (apply es_load; (iterate 5 exact rfl); first | exact ld_blk hT rfl rfl mem1 rfl rfl | exact ld_all hT rfl rfl mem1 rfl)
    | (apply es_load; (iterate 5 exact rfl); first | exact ld_blk hT rfl rfl mem2 rfl rfl | exact ld_all hT rfl rfl mem2 rfl)
    | (apply es_box; (iterate 5 exact rfl); intro _) | (apply es_alloc hT; (iterate 5 exact rfl); intro _)
    | (apply aw_condT; (iterate 2 exact rfl)) | (apply aw_condF; (iterate 2 exact rfl))
    | (apply es_case; exact rfl; all_goals intro hb; all_goals (try simp only [hb]); all_goals (first | replace hb := of_decide_eq_true hb | replace hb := of_decide_eq_false hb | replace hb := bne_t hb | replace hb := bne_f hb | skip); all_goals (try (exfalso; omega)))
    | (apply aw_cond; exact rfl; all_goals intro hb; all_goals (try simp only [hb]); all_goals (first | replace hb := of_decide_eq_true hb | replace hb := of_decide_eq_false hb | replace hb := bne_t hb | replace hb := bne_f hb | skip); all_goals (try (exfalso; omega))))
  all_goals
    apply ret1; exact rfl
    refine ⟨?_, by (repeat (first | exact dt_end | apply dt_skip))⟩
    simp_all [aheadS]

/-- one of this id, or of this place -/
def hasIS (id seq : Int) (x : Order) : Bool := x.id == id || x.seq == seq
theorem ref14_Has (W : World) (q : Nat) (A : Option Addr) (c : Nat) (l : List Order) (id seq : Int) (hb : l.length ≤ 1000000) :
    QSpec Tryz.prog W 143 [.pointer (some ⟨q, 0, none⟩), .int .i64 id, .int .i64 seq] (refB q A c l []) (.bool (decide (idxOf (hasIS id seq) l ≥ 0))) := by
  refine QSpec.ofD (fun h' hs => ?_)
  have m1 := hs _ mem0
  have m2 := hs _ mem1
  refine spec_body Tryz.func143 rfl rfl Tryz.results143 Tryz.ntmps143 rfl rfl ?_
  refine aw_fact m2 (fun hl hnc hcc hsome hnone hone => ?_)
  have hr := Reads.own (W := W) m2 hl hone
  repeat' (first
    | apply aw_seq | apply aw_region | apply aw_ret | apply aw_skip | apply aw_exit | apply aw_block | apply es_nil
    | (apply es_pure hT; (iterate 4 exact rfl)) | (apply es_skip; (iterate 3 exact rfl)) | (apply es_skip0; (iterate 2 exact rfl))
    | (apply es_i64 hT; (iterate 4 exact rfl); (iterate 2 omega))
    | (apply aw_draw [] [] hmix; decide +kernel)
    | (apply es_load; (iterate 5 exact rfl); first | exact ld_blk hT rfl rfl mem0 rfl rfl | exact ld_all hT rfl rfl mem0 rfl)
    | (apply es_load; (iterate 5 exact rfl); first | exact ld_blk hT rfl rfl mem1 rfl rfl | exact ld_all hT rfl rfl mem1 rfl)
    | (apply es_load; (iterate 5 exact rfl); first | exact ld_blk hT rfl rfl mem2 rfl rfl | exact ld_all hT rfl rfl mem2 rfl)
    | (apply es_box; (iterate 5 exact rfl); intro _) | (apply es_alloc hT; (iterate 5 exact rfl); intro _)
    | (apply aw_condT; (iterate 2 exact rfl)) | (apply aw_condF; (iterate 2 exact rfl))
    | (apply es_case; exact rfl; all_goals intro hb; all_goals (try simp only [hb]); all_goals (first | replace hb := of_decide_eq_true hb | replace hb := of_decide_eq_false hb | replace hb := bne_t hb | replace hb := bne_f hb | skip); all_goals (try (exfalso; omega)))
    | (apply aw_cond; exact rfl; all_goals intro hb; all_goals (try simp only [hb]); all_goals (first | replace hb := of_decide_eq_true hb | replace hb := of_decide_eq_false hb | replace hb := bne_t hb | replace hb := bne_f hb | skip); all_goals (try (exfalso; omega))))
  refine aw_loop (α := Nat) (E := fun x => [(0, .pointer (some ⟨q, 0, none⟩)), (1, .int .i64 id), (2, .int .i64 seq), (7, .int .i64 x)]) (H := fun _ => h') (μ := fun x => l.length - x)
    (S := fun x => x ≤ l.length ∧ ∀ (j : Nat) y, j < x → l[j]? = some y → hasIS id seq y = false) 0 (J := []) ⟨Nat.zero_le _, fun j y hj => absurd hj (Nat.not_lt_zero _)⟩ ⟨rfl, rfl, rfl, rfl, trivial⟩ (List.Perm.refl _) ?_
  rintro k ⟨hk, hno⟩
  by_cases hlt : k < l.length
  · obtain ⟨x, hx⟩ : ∃ x, l[k]? = some x := ⟨l[k]'(by omega), List.getElem?_eq_getElem (by omega)⟩
    have hx2 : l[(k : Int).toNat]? = some x := by simpa using hx
    obtain ⟨g, hA⟩ := hsome (by omega)
    have hA2 : A.isSome = true := by rw [hA]; rfl
    have hd1 : decide ((k : Int) < (l.length : Int)) = true := by simp; omega
    cases he : hasIS id seq x
    · have he1 : x.id ≠ id := fun e => by simp [hasIS, e] at he
      have he2 : x.seq ≠ seq := fun e => by simp [hasIS, e] at he
      repeat' (first
        | apply aw_seq | apply aw_region | apply aw_ret | apply aw_skip | apply aw_exit | apply aw_block | apply es_nil
        | (apply es_pure hT; (iterate 4 exact rfl)) | (apply es_skip; (iterate 3 exact rfl)) | (apply es_skip0; (iterate 2 exact rfl))
        | (apply es_i64 hT; (iterate 4 exact rfl); (iterate 2 omega))
        | (apply aw_draw [] [] hmix; decide +kernel)
        | (apply es_idx hT; (iterate 8 exact rfl); (iterate 2 omega); exact hA2)
        | (apply es_load; (iterate 5 exact rfl); exact ld_fld hT rfl rfl hr Order.enc_len (adr_add _ _ _) hx2 (by decide) rfl)
        | (apply es_load; (iterate 5 exact rfl); first | exact ld_blk hT rfl rfl mem0 rfl rfl | exact ld_all hT rfl rfl mem0 rfl)
        | (apply es_load; (iterate 5 exact rfl); first | exact ld_blk hT rfl rfl mem1 rfl rfl | exact ld_all hT rfl rfl mem1 rfl)
        | (apply es_load; (iterate 5 exact rfl); first | exact ld_blk hT rfl rfl mem2 rfl rfl | exact ld_all hT rfl rfl mem2 rfl)
        | (apply es_load; (iterate 5 exact rfl); first | exact ld_blk hT rfl rfl m1 rfl rfl | exact ld_all hT rfl rfl m1 rfl)
        | (apply es_load; (iterate 5 exact rfl); first | exact ld_blk hT rfl rfl (List.mem_cons_of_mem _ m1) rfl rfl | exact ld_all hT rfl rfl (List.mem_cons_of_mem _ m1) rfl)
        | (apply es_box; (iterate 5 exact rfl); intro _) | (apply es_alloc hT; (iterate 5 exact rfl); intro _)
        | (apply aw_condT; (iterate 2 exact rfl)) | (apply aw_condF; (iterate 2 exact rfl))
        | (apply es_case; exact rfl; all_goals intro hb; all_goals (try simp only [hb]); all_goals (first | replace hb := of_decide_eq_true hb | replace hb := of_decide_eq_false hb | replace hb := bne_t hb | replace hb := bne_f hb | skip); all_goals (try (exfalso; omega)))
        | (apply aw_cond; exact rfl; all_goals intro hb; all_goals (try simp only [hb]); all_goals (first | replace hb := of_decide_eq_true hb | replace hb := of_decide_eq_false hb | replace hb := bne_t hb | replace hb := bne_f hb | skip); all_goals (try (exfalso; omega))))
      all_goals first
        | (exfalso; omega)
        | exact loopq_end (k + 1) (by (try dsimp only); omega) ⟨by (try dsimp only); omega, fun j y hj hy => by
            by_cases hjk : j = k
            · subst hjk; rw [hx] at hy; cases hy; exact he
            · exact hno j y (by (try dsimp only at hj); omega) hy⟩ ⟨rfl, rfl, rfl, rfl, trivial⟩ dt_end
        | (exfalso; simp_all; done)
    · have hat := idxOf_at (p := hasIS id seq) hx he hno
      have hd2 : decide (idxOf (hasIS id seq) l ≥ 0) = true := by rw [hat]; simp
      have he1 : x.id = id ∨ x.seq = seq := by simpa [hasIS] using he
      repeat' (first
        | apply aw_seq | apply aw_region | apply aw_ret | apply aw_skip | apply aw_exit | apply aw_block | apply es_nil
        | (apply es_pure hT; (iterate 4 exact rfl)) | (apply es_skip; (iterate 3 exact rfl)) | (apply es_skip0; (iterate 2 exact rfl))
        | (apply es_i64 hT; (iterate 4 exact rfl); (iterate 2 omega))
        | (apply aw_draw [] [] hmix; decide +kernel)
        | (apply es_idx hT; (iterate 8 exact rfl); (iterate 2 omega); exact hA2)
        | (apply es_load; (iterate 5 exact rfl); exact ld_fld hT rfl rfl hr Order.enc_len (adr_add _ _ _) hx2 (by decide) rfl)
        | (apply es_load; (iterate 5 exact rfl); first | exact ld_blk hT rfl rfl mem0 rfl rfl | exact ld_all hT rfl rfl mem0 rfl)
        | (apply es_load; (iterate 5 exact rfl); first | exact ld_blk hT rfl rfl mem1 rfl rfl | exact ld_all hT rfl rfl mem1 rfl)
        | (apply es_load; (iterate 5 exact rfl); first | exact ld_blk hT rfl rfl mem2 rfl rfl | exact ld_all hT rfl rfl mem2 rfl)
        | (apply es_load; (iterate 5 exact rfl); first | exact ld_blk hT rfl rfl m1 rfl rfl | exact ld_all hT rfl rfl m1 rfl)
        | (apply es_load; (iterate 5 exact rfl); first | exact ld_blk hT rfl rfl (List.mem_cons_of_mem _ m1) rfl rfl | exact ld_all hT rfl rfl (List.mem_cons_of_mem _ m1) rfl)
        | (apply es_box; (iterate 5 exact rfl); intro _) | (apply es_alloc hT; (iterate 5 exact rfl); intro _)
        | (apply aw_condT; (iterate 2 exact rfl)) | (apply aw_condF; (iterate 2 exact rfl))
        | (apply es_case; exact rfl; all_goals intro hb; all_goals (try simp only [hb]); all_goals (first | replace hb := of_decide_eq_true hb | replace hb := of_decide_eq_false hb | replace hb := bne_t hb | replace hb := bne_f hb | skip); all_goals (try (exfalso; omega)))
        | (apply aw_cond; exact rfl; all_goals intro hb; all_goals (try simp only [hb]); all_goals (first | replace hb := of_decide_eq_true hb | replace hb := of_decide_eq_false hb | replace hb := bne_t hb | replace hb := bne_f hb | skip); all_goals (try (exfalso; omega))))
      all_goals first
        | (exfalso; omega)
        | (apply ret1; exact rfl; refine ⟨?_, dt_end⟩; rw [hd2])
        | (exfalso; simp_all; done)
  · have hd1 : decide ((k : Int) < (l.length : Int)) = false := by simp; omega
    have hd2 : decide (idxOf (hasIS id seq) l ≥ 0) = false := by
      rw [idxOf_none (fun j y hy => hno j y (by have := (List.getElem?_eq_some_iff.1 hy).1; omega) hy)]; decide
    repeat' (first
      | apply aw_seq | apply aw_region | apply aw_ret | apply aw_skip | apply aw_exit | apply aw_block | apply es_nil
      | (apply es_pure hT; (iterate 4 exact rfl)) | (apply es_skip; (iterate 3 exact rfl)) | (apply es_skip0; (iterate 2 exact rfl))
      | (apply es_i64 hT; (iterate 4 exact rfl); (iterate 2 omega))
      | (apply aw_draw [] [] hmix; decide +kernel)
      | (apply es_load; (iterate 5 exact rfl); first | exact ld_blk hT rfl rfl mem0 rfl rfl | exact ld_all hT rfl rfl mem0 rfl)
      | (apply es_load; (iterate 5 exact rfl); first | exact ld_blk hT rfl rfl mem1 rfl rfl | exact ld_all hT rfl rfl mem1 rfl)
      | (apply es_load; (iterate 5 exact rfl); first | exact ld_blk hT rfl rfl mem2 rfl rfl | exact ld_all hT rfl rfl mem2 rfl)
      | (apply es_load; (iterate 5 exact rfl); first | exact ld_blk hT rfl rfl m1 rfl rfl | exact ld_all hT rfl rfl m1 rfl)
      | (apply es_load; (iterate 5 exact rfl); first | exact ld_blk hT rfl rfl (List.mem_cons_of_mem _ m1) rfl rfl | exact ld_all hT rfl rfl (List.mem_cons_of_mem _ m1) rfl)
      | (apply es_box; (iterate 5 exact rfl); intro _) | (apply es_alloc hT; (iterate 5 exact rfl); intro _)
      | (apply aw_condT; (iterate 2 exact rfl)) | (apply aw_condF; (iterate 2 exact rfl))
      | (apply es_case; exact rfl; all_goals intro hb; all_goals (try simp only [hb]); all_goals (first | replace hb := of_decide_eq_true hb | replace hb := of_decide_eq_false hb | replace hb := bne_t hb | replace hb := bne_f hb | skip); all_goals (try (exfalso; omega)))
      | (apply aw_cond; exact rfl; all_goals intro hb; all_goals (try simp only [hb]); all_goals (first | replace hb := of_decide_eq_true hb | replace hb := of_decide_eq_false hb | replace hb := bne_t hb | replace hb := bne_f hb | skip); all_goals (try (exfalso; omega))))
    apply ret1; exact rfl
    refine ⟨?_, dt_end⟩
    rw [hd2]

theorem ref14_Add (W : World) (F : List Chunk) (p : Nat) (A : Option Addr) (c : Nat) (l : List Order) (o : Order) (hb : l.length ≤ 1000000) :
    FSpec Tryz.prog W 86 [.pointer (some ⟨p, 0, none⟩), .agg o.enc.toArray] (refB p A c l F) (fun v h' => v = .int .i64 (addOE o l) ∧ ∃ A' c', h' = refB p A' c' (addO o l) F) := by
  refine FSpec.dropTo ?_
  refine spec_body Tryz.func86 rfl rfl Tryz.results86 Tryz.ntmps86 rfl rfl ?_
  refine aw_fact (h := refB p A c l F) mem1 (fun hl hnc hcc hsome hnone hone => ?_)
  have hq : ∀ g1, QSpec Tryz.prog W 143 [.pointer (some ⟨p, 0, none⟩), .int .i64 o.id, .int .i64 o.seq] (.blk g1 82 o.enc :: refB p A c l F) (.bool (decide (idxOf (clashO o) l ≥ 0))) := fun g1 =>
    (ref14_Has W p A c l o.id o.seq hb).mono (memPairB mem1 mem2)
  have hok : ∀ h, QSpec Tryz.prog W 142 [.agg o.enc.toArray] h (.bool (okO o)) := fun h => (ref14_May W o).mono (by simp)
  cases hO : okO o
  · rw [hO] at hok
    have hE : addOE o l = 1 := by simp [addOE, hO]
    repeat' (first
      | apply aw_seq | apply aw_region | apply aw_ret | apply aw_skip | apply aw_exit | apply aw_block | apply es_nil
      | (apply es_pure hT; (iterate 4 exact rfl)) | (apply es_skip; (iterate 3 exact rfl)) | (apply es_skip0; (iterate 2 exact rfl))
      | (apply es_i64 hT; (iterate 4 exact rfl); (iterate 2 omega))
      | (apply aw_draw [] [] hmix; decide +kernel)
      | (apply es_callQ (hs := (hok _)); (iterate 7 exact rfl))
      | (apply es_load; (iterate 5 exact rfl); first | exact ld_blk hT rfl rfl mem0 rfl rfl | exact ld_all hT rfl rfl mem0 rfl)
      | (apply es_load; (iterate 5 exact rfl); first | exact ld_blk hT rfl rfl mem1 rfl rfl | exact ld_all hT rfl rfl mem1 rfl)
      | (apply es_load; (iterate 5 exact rfl); first | exact ld_blk hT rfl rfl mem2 rfl rfl | exact ld_all hT rfl rfl mem2 rfl)
      | (apply es_load; (iterate 5 exact rfl); first | exact ld_blk hT rfl rfl mem0 rfl rfl | exact ld_all hT rfl rfl mem0 rfl)
      | (apply es_load; (iterate 5 exact rfl); first | exact ld_blk hT rfl rfl (List.mem_cons_of_mem _ mem0) rfl rfl | exact ld_all hT rfl rfl (List.mem_cons_of_mem _ mem0) rfl)
      | (apply es_load; (iterate 5 exact rfl); first | exact ld_blk hT rfl rfl mem1 rfl rfl | exact ld_all hT rfl rfl mem1 rfl)
      | (apply es_load; (iterate 5 exact rfl); first | exact ld_blk hT rfl rfl (List.mem_cons_of_mem _ mem1) rfl rfl | exact ld_all hT rfl rfl (List.mem_cons_of_mem _ mem1) rfl)
      | (apply es_box; (iterate 5 exact rfl); intro _) | (apply es_alloc hT; (iterate 5 exact rfl); intro _)
      | (apply aw_condT; (iterate 2 exact rfl)) | (apply aw_condF; (iterate 2 exact rfl))
      | (apply es_case; exact rfl; all_goals intro hb; all_goals (try simp only [hb]); all_goals (first | replace hb := of_decide_eq_true hb | replace hb := of_decide_eq_false hb | replace hb := bne_t hb | replace hb := bne_f hb | skip); all_goals (try (exfalso; omega)))
      | (apply aw_cond; exact rfl; all_goals intro hb; all_goals (try simp only [hb]); all_goals (first | replace hb := of_decide_eq_true hb | replace hb := of_decide_eq_false hb | replace hb := bne_t hb | replace hb := bne_f hb | skip); all_goals (try (exfalso; omega))))
    apply ret1; exact rfl
    exact ⟨refB p A c l F, dt_skip dt_end, by rw [hE], A, c, by simp [addO, hE]⟩
  · rw [hO] at hok
    by_cases hI : idxOf (clashO o) l ≥ 0
    · have hE : addOE o l = 1 := by simp [addOE, hI]
      rw [decide_eq_true hI] at hq
      repeat' (first
        | apply aw_seq | apply aw_region | apply aw_ret | apply aw_skip | apply aw_exit | apply aw_block | apply es_nil
        | (apply es_pure hT; (iterate 4 exact rfl)) | (apply es_skip; (iterate 3 exact rfl)) | (apply es_skip0; (iterate 2 exact rfl))
        | (apply es_i64 hT; (iterate 4 exact rfl); (iterate 2 omega))
        | (apply aw_draw [] [] hmix; decide +kernel)
        | (apply es_callQ (hs := (hok _)); (iterate 7 exact rfl))
        | (apply es_callQ (hs := (hq _)); (iterate 7 exact rfl))
        | (apply es_load; (iterate 5 exact rfl); first | exact ld_blk hT rfl rfl mem0 rfl rfl | exact ld_all hT rfl rfl mem0 rfl)
        | (apply es_load; (iterate 5 exact rfl); first | exact ld_blk hT rfl rfl mem1 rfl rfl | exact ld_all hT rfl rfl mem1 rfl)
        | (apply es_load; (iterate 5 exact rfl); first | exact ld_blk hT rfl rfl mem2 rfl rfl | exact ld_all hT rfl rfl mem2 rfl)
        | (apply es_load; (iterate 5 exact rfl); first | exact ld_blk hT rfl rfl mem0 rfl rfl | exact ld_all hT rfl rfl mem0 rfl)
        | (apply es_load; (iterate 5 exact rfl); first | exact ld_blk hT rfl rfl (List.mem_cons_of_mem _ mem0) rfl rfl | exact ld_all hT rfl rfl (List.mem_cons_of_mem _ mem0) rfl)
        | (apply es_load; (iterate 5 exact rfl); first | exact ld_blk hT rfl rfl mem1 rfl rfl | exact ld_all hT rfl rfl mem1 rfl)
        | (apply es_load; (iterate 5 exact rfl); first | exact ld_blk hT rfl rfl (List.mem_cons_of_mem _ mem1) rfl rfl | exact ld_all hT rfl rfl (List.mem_cons_of_mem _ mem1) rfl)
        | (apply es_box; (iterate 5 exact rfl); intro _) | (apply es_alloc hT; (iterate 5 exact rfl); intro _)
        | (apply aw_condT; (iterate 2 exact rfl)) | (apply aw_condF; (iterate 2 exact rfl))
        | (apply es_case; exact rfl; all_goals intro hb; all_goals (try simp only [hb]); all_goals (first | replace hb := of_decide_eq_true hb | replace hb := of_decide_eq_false hb | replace hb := bne_t hb | replace hb := bne_f hb | skip); all_goals (try (exfalso; omega)))
        | (apply aw_cond; exact rfl; all_goals intro hb; all_goals (try simp only [hb]); all_goals (first | replace hb := of_decide_eq_true hb | replace hb := of_decide_eq_false hb | replace hb := bne_t hb | replace hb := bne_f hb | skip); all_goals (try (exfalso; omega))))
      apply ret1; exact rfl
      exact ⟨refB p A c l F, dt_skip dt_end, by rw [hE], A, c, by simp [addO, hE]⟩
    · rw [decide_eq_false hI] at hq
      by_cases hM : l.length ≥ 64
      · have hE : addOE o l = 3 := by simp [addOE, hO, hI, hM]
        have hd : decide (((l.length : Nat) : Int) ≥ 64) = true := by simp; omega
        repeat' (first
          | apply aw_seq | apply aw_region | apply aw_ret | apply aw_skip | apply aw_exit | apply aw_block | apply es_nil
          | (apply es_pure hT; (iterate 4 exact rfl)) | (apply es_skip; (iterate 3 exact rfl)) | (apply es_skip0; (iterate 2 exact rfl))
          | (apply es_i64 hT; (iterate 4 exact rfl); (iterate 2 omega))
          | (apply aw_draw [] [] hmix; decide +kernel)
          | (apply es_callQ (hs := (hok _)); (iterate 7 exact rfl))
          | (apply es_callQ (hs := (hq _)); (iterate 7 exact rfl))
          | (apply es_load; (iterate 5 exact rfl); first | exact ld_blk hT rfl rfl mem0 rfl rfl | exact ld_all hT rfl rfl mem0 rfl)
          | (apply es_load; (iterate 5 exact rfl); first | exact ld_blk hT rfl rfl mem1 rfl rfl | exact ld_all hT rfl rfl mem1 rfl)
          | (apply es_load; (iterate 5 exact rfl); first | exact ld_blk hT rfl rfl mem2 rfl rfl | exact ld_all hT rfl rfl mem2 rfl)
          | (apply es_load; (iterate 5 exact rfl); first | exact ld_blk hT rfl rfl mem0 rfl rfl | exact ld_all hT rfl rfl mem0 rfl)
          | (apply es_load; (iterate 5 exact rfl); first | exact ld_blk hT rfl rfl (List.mem_cons_of_mem _ mem0) rfl rfl | exact ld_all hT rfl rfl (List.mem_cons_of_mem _ mem0) rfl)
          | (apply es_load; (iterate 5 exact rfl); first | exact ld_blk hT rfl rfl mem1 rfl rfl | exact ld_all hT rfl rfl mem1 rfl)
          | (apply es_load; (iterate 5 exact rfl); first | exact ld_blk hT rfl rfl (List.mem_cons_of_mem _ mem1) rfl rfl | exact ld_all hT rfl rfl (List.mem_cons_of_mem _ mem1) rfl)
          | (apply es_box; (iterate 5 exact rfl); intro _) | (apply es_alloc hT; (iterate 5 exact rfl); intro _)
          | (apply aw_condT; (iterate 2 exact rfl)) | (apply aw_condF; (iterate 2 exact rfl))
          | (apply es_case; exact rfl; all_goals intro hb; all_goals (try simp only [hb]); all_goals (first | replace hb := of_decide_eq_true hb | replace hb := of_decide_eq_false hb | replace hb := bne_t hb | replace hb := bne_f hb | skip); all_goals (try (exfalso; omega)))
          | (apply aw_cond; exact rfl; all_goals intro hb; all_goals (try simp only [hb]); all_goals (first | replace hb := of_decide_eq_true hb | replace hb := of_decide_eq_false hb | replace hb := bne_t hb | replace hb := bne_f hb | skip); all_goals (try (exfalso; omega))))
        apply ret1; exact rfl
        exact ⟨refB p A c l F, dt_skip dt_end, by rw [hE], A, c, by simp [addO, hE]⟩
      · have hE : addOE o l = 0 := by simp [addOE, hO, hI, hM]
        have hA : addO o l = l ++ [o] := by simp [addO, hE]
        have hd : decide (((l.length : Nat) : Int) ≥ 64) = false := by simp; omega
        repeat' (first
          | apply aw_seq | apply aw_region | apply aw_ret | apply aw_skip | apply aw_exit | apply aw_block | apply es_nil
          | (apply es_pure hT; (iterate 4 exact rfl)) | (apply es_skip; (iterate 3 exact rfl)) | (apply es_skip0; (iterate 2 exact rfl))
          | (apply es_i64 hT; (iterate 4 exact rfl); (iterate 2 omega))
          | (apply aw_draw [] [] hmix; decide +kernel)
          | (apply es_callQ (hs := (hok _)); (iterate 7 exact rfl))
          | (apply es_callQ (hs := (hq _)); (iterate 7 exact rfl))
          | (apply es_buildSlice hT; (iterate 12 exact rfl); intro g)
          | (apply es_append hT; (iterate 10 exact rfl); (first | exact sel0 | exact sel1 | exact selS sel1 | exact selS (selS sel1) | exact selS (selS (selS sel1)) | exact selS (selS (selS (selS sel1))) | exact selS (selS (selS (selS (selS sel1)))) | exact selS (selS (selS (selS (selS (selS sel1)))))); exact Reads.own mem0 rfl (Order.enc_one o); omega; (show (_ : Nat) * 48 ≤ _; omega); intro A' c')
          | (apply es_store hT; (iterate 6 exact rfl); (first | exact sel0 | exact sel1 | exact selS sel1 | exact selS (selS sel1) | exact selS (selS (selS sel1)) | exact selS (selS (selS (selS sel1))) | exact selS (selS (selS (selS (selS sel1)))) | exact selS (selS (selS (selS (selS (selS sel1)))))); (iterate 3 exact rfl); exact Nat.le_of_ble_eq_true rfl)
          | (apply es_load; (iterate 5 exact rfl); first | exact ld_blk hT rfl rfl mem0 rfl rfl | exact ld_all hT rfl rfl mem0 rfl)
          | (apply es_load; (iterate 5 exact rfl); first | exact ld_blk hT rfl rfl mem1 rfl rfl | exact ld_all hT rfl rfl mem1 rfl)
          | (apply es_load; (iterate 5 exact rfl); first | exact ld_blk hT rfl rfl mem2 rfl rfl | exact ld_all hT rfl rfl mem2 rfl)
          | (apply es_load; (iterate 5 exact rfl); first | exact ld_blk hT rfl rfl mem0 rfl rfl | exact ld_all hT rfl rfl mem0 rfl)
          | (apply es_load; (iterate 5 exact rfl); first | exact ld_blk hT rfl rfl (List.mem_cons_of_mem _ mem0) rfl rfl | exact ld_all hT rfl rfl (List.mem_cons_of_mem _ mem0) rfl)
          | (apply es_load; (iterate 5 exact rfl); first | exact ld_blk hT rfl rfl (List.mem_cons_of_mem _ (List.mem_cons_of_mem _ mem0)) rfl rfl | exact ld_all hT rfl rfl (List.mem_cons_of_mem _ (List.mem_cons_of_mem _ mem0)) rfl)
          | (apply es_load; (iterate 5 exact rfl); first | exact ld_blk hT rfl rfl mem1 rfl rfl | exact ld_all hT rfl rfl mem1 rfl)
          | (apply es_load; (iterate 5 exact rfl); first | exact ld_blk hT rfl rfl (List.mem_cons_of_mem _ mem1) rfl rfl | exact ld_all hT rfl rfl (List.mem_cons_of_mem _ mem1) rfl)
          | (apply es_load; (iterate 5 exact rfl); first | exact ld_blk hT rfl rfl (List.mem_cons_of_mem _ (List.mem_cons_of_mem _ mem1)) rfl rfl | exact ld_all hT rfl rfl (List.mem_cons_of_mem _ (List.mem_cons_of_mem _ mem1)) rfl)
          | (apply es_box; (iterate 5 exact rfl); intro _) | (apply es_alloc hT; (iterate 5 exact rfl); intro _)
          | (apply aw_condT; (iterate 2 exact rfl)) | (apply aw_condF; (iterate 2 exact rfl))
          | (apply es_case; exact rfl; all_goals intro hb; all_goals (try simp only [hb]); all_goals (first | replace hb := of_decide_eq_true hb | replace hb := of_decide_eq_false hb | replace hb := bne_t hb | replace hb := bne_f hb | skip); all_goals (try (exfalso; omega)))
          | (apply aw_cond; exact rfl; all_goals intro hb; all_goals (try simp only [hb]); all_goals (first | replace hb := of_decide_eq_true hb | replace hb := of_decide_eq_false hb | replace hb := bne_t hb | replace hb := bne_f hb | skip); all_goals (try (exfalso; omega))))
        all_goals
          apply ret1; exact rfl
          refine ⟨refB p A' c' (addO o l) F, ?_, by rw [hE], A', c', rfl⟩
          rw [hA, refB, List.length_append, List.flatMap_append]
          apply dt_cons; (first | exact sel0 | exact sel1 | exact selS sel1 | exact selS (selS sel1) | exact selS (selS (selS sel1)) | exact selS (selS (selS (selS sel1))) | exact selS (selS (selS (selS (selS sel1)))) | exact selS (selS (selS (selS (selS (selS sel1))))))
          apply dt_cons; (first | exact sel0 | exact sel1 | exact selS sel1 | exact selS (selS sel1) | exact selS (selS (selS sel1)) | exact selS (selS (selS (selS sel1))) | exact selS (selS (selS (selS (selS sel1)))) | exact selS (selS (selS (selS (selS (selS sel1))))))
          (repeat (first | exact dt_end | apply dt_skip))

end Go.Proofs.YtjcnaeengplcbaaGreat

