/- The statement's walk, and what it stands on, joined into few texts: part 2. Conditions stand in each statement. -/
import Derived.Test.YtakilgkpfjhfdaaGreatBndL1
set_option linter.all false
namespace Go.Proofs.YtakilgkpfjhfdaaGreat
open Go Go.Sl
attribute [local irreducible] AW ES EP Ld RetQ
set_option maxRecDepth 100000
def aheadQ (s : Int) (a b : Quote) : Bool := if a.price = b.price then decide (a.id < b.id) else betterB (otherB s) a.price b.price
theorem gate_ahead (W : World) (s : Int) (a b : Quote) : QSpec Tryz.prog W 153 [.int .i64 s, .agg a.enc.toArray, .agg b.enc.toArray] [] (.bool (aheadQ s a b)) := by
  refine QSpec.ofD (fun h' hs => ?_)
  have hO := side_Other W s
  have hBt := side_Better W (otherB s) a.price b.price
  refine spec_body Tryz.func153 rfl rfl Tryz.results153 Tryz.ntmps153 rfl rfl ?_
  repeat' (first | apply aw_seq | apply aw_region | apply aw_ret | apply aw_skip | apply es_nil | apply es_pure hT; iterate 4 exact rfl | apply aw_draw [178, 70] [] hmix; decide +kernel | (apply es_callQ (hs := (hO.mono (by simp))); iterate 7 exact rfl) | (apply es_callQ (hs := (hBt.mono (by simp))); iterate 7 exact rfl) | (apply es_load; (iterate 5 exact rfl); first | (apply ld_blk hT; exact rfl; exact rfl; (repeat (first | exact mcs | apply mcm)); exact rfl; exact rfl) ) | apply es_box; (iterate 5 exact rfl); intro _ | (apply aw_cond; exact rfl; all_goals (intro hb; (try simp only [hb]); (first | replace hb := odt hb | replace hb := odf hb ); (try omega))))
  all_goals
    apply ret1; exact rfl
    refine ⟨?_, by (repeat (first | exact dt_end | apply dt_skip))⟩
    simp [aheadQ, *]
def bestQ (s : Int) (b q : Quote) : Quote := if aheadQ s q b then q else b
def bestF (s : Int) (x : Quote) (l : List Quote) : Quote := l.foldl (bestQ s) x
theorem bestF_step {s : Int} {x y : Quote} {l : List Quote} {k : Nat} (h : l[k]? = some y) : bestF s x (l.take (k + 1)) = bestQ s (bestF s x (l.take k)) y := by
  rw [bestF, List.take_add_one, h, List.foldl_append]; rfl
def zeroG : Quote := ⟨0, 0, 0, 0, 0, false⟩
def gotQ : Option Quote → Value
  | some x => .tuple #[.agg x.enc.toArray, .bool true]
  | none => .tuple #[.agg zeroG.enc.toArray, .bool false]
def bestV (s : Int) (l : List Quote) : Option Quote := if isB s then (match l with
  | [] => none
  | x :: r => some (bestF s x (x :: r))) else none
set_option maxHeartbeats 1000000 in
theorem gate_Best (W : World) (h : List Chunk) (A : Option Addr) (c : Nat) (l : List Quote) (s : Int) (hr : Reads W h A l.length 6 (l.flatMap Quote.enc)) (hb : l.length ≤ 1000000) :
    QSpec Tryz.prog W 109 [.int .i64 s, .slice A l.length c] h (gotQ (bestV s l)) := by
  refine QSpec.ofD (fun h' hs => ?_)
  have hr := hr.mono hs
  have hI := side_Is W s
  refine spec_body Tryz.func109 rfl rfl Tryz.results109 Tryz.ntmps109 rfl rfl ?_
  refine aw_reads hr (by rfl) (fun hA => ?_)
  cases hB : isB s
  · rw [hB] at hI
    repeat' (first | apply aw_seq | apply aw_region | apply aw_ret | apply es_nil | apply es_pure hT; iterate 4 exact rfl | apply es_skip; iterate 3 exact rfl | apply es_alloc hT; (iterate 5 exact rfl); intro g4 | (apply es_callQ (hs := (hI.mono (by simp))); iterate 7 exact rfl) | apply es_build hT; iterate 4 exact rfl | (apply es_store hT; (iterate 6 exact rfl); (repeat (first | exact sel0 )); (iterate 3 exact rfl); exact nle rfl) | apply aw_condT; iterate 2 exact rfl)
    all_goals first
      | (exfalso; omega)
      | (apply ret2c; exact rfl; exact ld_all hT rfl rfl mem0 rfl; exact rfl; exact ⟨by simp [bestV, hB]; rfl, by (repeat (first | exact dt_end | apply dt_skip))⟩)
  rw [hB] at hI
  cases l with
  | nil =>
    have hd : (((([] : List Quote).length : Nat) : Int) == 0) = true := by decide
    repeat' (first | apply aw_seq | apply aw_region | apply aw_ret | apply es_nil | apply es_pure hT; iterate 4 exact rfl | apply es_alloc hT; (iterate 5 exact rfl); intro g4 | (apply es_callQ (hs := (hI.mono (by simp))); iterate 7 exact rfl) | apply es_build hT; iterate 4 exact rfl | (apply es_store hT; (iterate 6 exact rfl); (repeat (first | exact sel0 )); (iterate 3 exact rfl); exact nle rfl) | apply aw_condT; iterate 2 exact rfl)
    all_goals first
      | (exfalso; omega)
      | (apply ret2c; exact rfl; exact ld_all hT rfl rfl mem0 rfl; exact rfl; exact ⟨by simp [bestV, hB]; rfl, by (repeat (first | exact dt_end | apply dt_skip))⟩)
      | (exfalso; simp at hb; done)
  | cons x0 r =>
    have hv : bestV s (x0 :: r) = some (bestF s x0 (x0 :: r)) := by simp [bestV, hB]
    rw [hv]
    have h0 : (x0 :: r)[(0 : Int).toNat]? = some x0 := rfl
    generalize hl : x0 :: r = l at *
    have hpos : 0 < l.length := by rw [← hl]; simp
    have hA := hA hpos
    have hd : (((l.length : Nat) : Int) == 0) = false := beq_eq_false_iff_ne.2 (by omega)
    repeat' (first | apply aw_seq | apply aw_region | apply aw_skip | apply aw_block | apply es_nil | apply es_pure hT; iterate 4 exact rfl | apply es_alloc hT; (iterate 5 exact rfl); intro g4 | (apply es_callQ (hs := (hI.mono (by simp))); iterate 7 exact rfl) | apply es_idx hT; (iterate 8 exact rfl); (iterate 2 omega); exact hA | apply es_load; (iterate 5 exact rfl); exact ld_elem hT rfl rfl (hr.mono (fun _ h => .tail _ h)) Quote.enc_len rfl h0 rfl | (apply es_store hT; (iterate 6 exact rfl); (repeat (first | exact sel0 )); (iterate 3 exact rfl); exact nle rfl) | (apply aw_cond; exact rfl; all_goals (intro hb; (try simp only [hb]); (first | replace hb := odt hb | replace hb := odf hb ); (try omega))))
    all_goals try omega
    rename_i g0
    refine aw_loopD (α := Nat) (E := fun k => [(0, .int .i64 s), (4, .pointer (some ⟨g0, 0, none⟩)), (6, .pointer (some ⟨g4, 0, none⟩)), (21, .slice A l.length c), (22, .int .i64 l.length), (23, .int .i64 k)])
      (H := fun k => .blk g4 115 (bestF s x0 (l.take k)).enc :: .blk g0 115 zeroG.enc :: h') (μ := fun k => l.length - k)
      (S := fun k => k ≤ l.length) 0 (Nat.zero_le _) ⟨rfl, rfl, rfl, rfl, rfl, rfl, trivial⟩ (by rw [List.take_zero, show bestF s x0 [] = x0 from rfl]; (repeat (first | exact dt_end))) ?_
    intro k hk
    by_cases hlt : k < l.length
    · obtain ⟨y, hy⟩ : ∃ y, l[k]? = some y := ⟨l[k]'(by omega), List.getElem?_eq_getElem (by omega)⟩
      have hy2 : l[(k : Int).toNat]? = some y := by simpa using hy
      have hd1 : decide ((k : Int) < (l.length : Int)) = true := by simp; omega
      have hst := bestF_step (s := s) (x := x0) hy
      generalize bestF s x0 (l.take k) = bk at hst ⊢
      have hah := gate_ahead W s y bk
      unfold bestQ at hst
      cases hc : aheadQ s y bk
      · rw [hc] at hah hst
        rw [if_neg (by decide)] at hst
        repeat' (first | apply aw_seq | apply aw_region | apply aw_skip | apply aw_block | apply es_nil | apply es_pure hT; iterate 4 exact rfl | apply es_i64 hT; (iterate 4 exact rfl); (iterate 2 omega) | apply es_idx hT; (iterate 8 exact rfl); (iterate 2 omega); exact hA | apply es_load; (iterate 5 exact rfl); exact ld_elem hT rfl rfl (hr.mono (fun _ h => .tail _ (.tail _ h))) Quote.enc_len rfl hy2 rfl | apply es_alloc hT; (iterate 5 exact rfl); intro g8 | (apply es_callQ (hs := (hah.mono (by simp))); iterate 7 exact rfl) | (apply es_store hT; (iterate 6 exact rfl); (repeat (first | exact sel0 )); (iterate 3 exact rfl); exact nle rfl) | (apply es_load; (iterate 5 exact rfl); first | (apply ld_all hT; exact rfl; exact rfl; (repeat (first | exact mcs | apply mcm)); exact rfl)) | apply aw_condF; iterate 2 exact rfl | (apply aw_cond; exact rfl; all_goals (intro hb; (try simp only [hb]); (first | replace hb := odt hb | replace hb := odf hb ); (try omega))))
        all_goals first
          | (exfalso; omega)
          | (refine loopq_end (k + 1) (by (try dsimp only); omega) (by (try dsimp only); omega) ⟨rfl, rfl, rfl, rfl, rfl, rfl, trivial⟩ ?_
             (try dsimp only)
             rw [hst]
             (repeat (first | exact dt_end | (apply dt_cons; · (repeat (first | exact sel0 | apply selS))) | apply dt_skip)))
          | (apply blockq_n; refine loopq_end (k + 1) (by (try dsimp only); omega) (by (try dsimp only); omega) ⟨rfl, rfl, rfl, rfl, rfl, rfl, trivial⟩ ?_
             (try dsimp only)
             rw [hst]
             (repeat (first | exact dt_end | (apply dt_cons; · (repeat (first | exact sel0 | apply selS))) | apply dt_skip)))
          | skip
      · rw [hc] at hah hst
        rw [if_pos rfl] at hst
        repeat' (first | apply aw_seq | apply aw_region | apply aw_skip | apply aw_block | apply es_nil | apply es_pure hT; iterate 4 exact rfl | apply es_i64 hT; (iterate 4 exact rfl); (iterate 2 omega) | apply es_idx hT; (iterate 8 exact rfl); (iterate 2 omega); exact hA | apply es_load; (iterate 5 exact rfl); exact ld_elem hT rfl rfl (hr.mono (fun _ h => .tail _ (.tail _ h))) Quote.enc_len rfl hy2 rfl | apply es_alloc hT; (iterate 5 exact rfl); intro g8 | (apply es_callQ (hs := (hah.mono (by simp))); iterate 7 exact rfl) | (apply es_store hT; (iterate 6 exact rfl); (repeat (first | exact sel0 | apply selS)); (iterate 3 exact rfl); exact nle rfl) | (apply es_load; (iterate 5 exact rfl); first | (apply ld_all hT; exact rfl; exact rfl; (repeat (first | exact mcs | apply mcm)); exact rfl)) | apply aw_condT; iterate 2 exact rfl | (apply aw_cond; exact rfl; all_goals (intro hb; (try simp only [hb]); (first | replace hb := odt hb | replace hb := odf hb ); (try omega))))
        all_goals first
          | (exfalso; omega)
          | (refine loopq_end (k + 1) (by (try dsimp only); omega) (by (try dsimp only); omega) ⟨rfl, rfl, rfl, rfl, rfl, rfl, trivial⟩ ?_
             (try dsimp only)
             rw [hst]
             (repeat (first | exact dt_end | (apply dt_cons; · (repeat (first | exact sel0 | apply selS))) | apply dt_skip)))
          | (apply blockq_n; refine loopq_end (k + 1) (by (try dsimp only); omega) (by (try dsimp only); omega) ⟨rfl, rfl, rfl, rfl, rfl, rfl, trivial⟩ ?_
             (try dsimp only)
             rw [hst]
             (repeat (first | exact dt_end | (apply dt_cons; · (repeat (first | exact sel0 | apply selS))) | apply dt_skip)))
          | skip
    · obtain rfl : k = l.length := by omega
      have hd1 : decide ((l.length : Int) < (l.length : Int)) = false := by simp
      rw [List.take_length]
      repeat' (first | apply aw_seq | apply aw_region | apply aw_ret | apply aw_exit | apply es_nil | apply es_pure hT; iterate 4 exact rfl | (apply es_store hT; (iterate 6 exact rfl); (repeat (first | exact sel0 | apply selS)); (iterate 3 exact rfl); exact nle rfl) | (apply es_load; (iterate 5 exact rfl); first | (apply ld_all hT; exact rfl; exact rfl; (repeat (first | exact mcs )); exact rfl)) | (apply aw_cond; exact rfl; all_goals (intro hb; (try simp only [hb]); (first | replace hb := odt hb | replace hb := odf hb ); (try omega))))
      all_goals first
        | (exfalso; omega)
        | (apply ret2c; exact rfl; exact ld_all hT rfl rfl mem0 rfl; exact rfl; exact ⟨rfl, by (repeat (first | exact dt_end | apply dt_skip))⟩)
        | skip
end Go.Proofs.YtakilgkpfjhfdaaGreat

namespace Go.Proofs.YtakilgkpfjhfdaaGreat
open Go Go.Sl
attribute [local irreducible] AW ES Ld RetQ
set_option maxRecDepth 100000
theorem indexFuncQuote (W : World) (h : List Chunk) (A : Option Addr) (n c : Nat) (l : List Quote) (hn : l.length = n) (hr : Reads W h A n 6 (l.flatMap Quote.enc)) (fn : FuncId) (cap : List Value) (p : Quote → Bool)
    (hf : ∀ x ∈ l, QSpec Tryz.prog W fn ([.agg x.enc.toArray] ++ cap) h (.bool (p x))) (hb : n ≤ 4611686018427387903) :
    QSpec Tryz.prog W 192 [.slice A n c, .func (.func fn) #[] cap.toArray] h (.int .i64 (idxOf p l)) := by
  refine QSpec.of (fun h' hs => ?_)
  have hr' := hr.mono hs
  refine spec_body Tryz.func192 rfl rfl Tryz.results192 Tryz.ntmps192 rfl rfl ?_
  refine aw_reads hr' rfl (fun hA => ?_)
  repeat' (first | apply aw_seq | apply aw_region | apply aw_block | apply es_nil | apply es_pure hT; iterate 4 exact rfl)
  refine aw_loop (α := Nat) (E := fun k => [(0, .slice A n c), (1, .func (.func fn) #[] cap.toArray), (7, .int .i64 n), (8, .int .i64 k)]) (H := fun _ => h') (μ := fun k => n - k)
    (S := fun k => k ≤ n ∧ ∀ (j : Nat) y, j < k → l[j]? = some y → p y = false) 0 (J := []) ⟨Nat.zero_le _, fun j y hj => by omega⟩ ⟨rfl, rfl, rfl, rfl, trivial⟩ (List.Perm.refl _) ?_
  rintro k ⟨hk1, hk2⟩
  by_cases hlt : k < n
  · obtain ⟨x, hx⟩ : ∃ x, l[k]? = some x := ⟨l[k]'(by omega), List.getElem?_eq_getElem (by omega)⟩
    have hx2 : l[(k : Int).toNat]? = some x := by simpa using hx
    have hfx := (hf x (List.mem_of_getElem? hx)).mono hs
    have hA' := hA (by omega)
    repeat' (first | apply aw_seq | apply aw_region | apply aw_ret | apply aw_skip | apply aw_block | apply es_nil | apply es_pure hT; iterate 4 exact rfl | apply es_i64 hT; (iterate 4 exact rfl); (iterate 2 omega) | apply es_idx hT; (iterate 8 exact rfl); (iterate 2 omega); exact hA' | apply es_load; (iterate 5 exact rfl); exact ld_elem hT rfl rfl hr' Quote.enc_len rfl hx2 rfl | apply es_callQ (hs := hfx); iterate 7 exact rfl | (apply aw_cond; exact rfl; all_goals (intro hb; (try simp only [hb]); (first | replace hb := odt hb | replace hb := odf hb | skip); (try omega))))
    · exact retQ1 (J := []) rfl (by rw [idxOf_at hx hb hk2]) (List.Perm.refl _)
    · have hpx := hb
      refine ⟨k + 1, [], by dsimp only; omega, ⟨by omega, fun j y hj hy => ?_⟩, ⟨rfl, rfl, rfl, rfl, trivial⟩, List.Perm.refl _⟩
      by_cases hjk : j < k
      · exact hk2 j y hjk hy
      · obtain rfl : j = k := by omega
        rw [hx] at hy; cases hy; exact hpx
  · repeat' (first | apply aw_seq | apply aw_region | apply aw_ret | apply aw_exit | apply es_nil | apply es_pure hT; iterate 4 exact rfl | (apply aw_cond; exact rfl; all_goals (intro hb; (try simp only [hb]); (first | replace hb := odt hb | replace hb := odf hb ); (try omega))))
    exact retQ1 (J := []) rfl (by rw [idxOf_none (fun (j : Nat) y hj => hk2 j y (by have := (List.getElem?_eq_some_iff.1 hj).1; omega) hj)]) (List.Perm.refl _)
end Go.Proofs.YtakilgkpfjhfdaaGreat

namespace Go.Proofs.YtakilgkpfjhfdaaGreat
open Go Go.Sl
attribute [local irreducible] AW ES Ld RetQ
set_option maxRecDepth 100000
theorem bsearchQuote (W : World) (h : List Chunk) (A : Option Addr) (n c : Nat) (l : List Quote) (hn : l.length = n) (hr : Reads W h A n 6 (l.flatMap Quote.enc)) (tgt : Value) (htg : ∃ a, tgt = .int .i64 a) (fn : FuncId) (cap : List Value) (cf : Quote → Int)
    (hf : ∀ x ∈ l, QSpec Tryz.prog W fn ([.agg x.enc.toArray, tgt] ++ cap) h (.int .i64 (cf x))) (hmono : ∀ (i j : Nat) x y, i ≤ j → l[i]? = some x → l[j]? = some y → cf y < 0 → cf x < 0) (hb : n ≤ 2305843009213693951) :
    QSpec Tryz.prog W 131 [.slice A n c, tgt, .func (.func fn) #[] cap.toArray] h (.tuple #[.int .i64 (bsN cf l), .bool (bsB cf l)]) := by
  obtain ⟨ta, rfl⟩ := htg
  refine QSpec.of (fun h' hs => ?_)
  have hr' := hr.mono hs
  refine spec_body Tryz.func131 rfl rfl Tryz.results131 Tryz.ntmps131 rfl rfl ?_
  refine aw_reads hr' rfl (fun hA => ?_)
  repeat' (first | apply aw_seq | apply aw_region | apply aw_block | apply es_nil | apply es_pure hT; iterate 4 exact rfl)
  refine aw_loop (α := Int × Int) (E := fun p => [(0, .slice A n c), (2, .func (.func fn) #[] cap.toArray), (1, .int .i64 ta), (8, .int .i64 n), (9, .int .i64 p.1), (10, .int .i64 p.2)]) (H := fun _ => _) (μ := fun p => (p.2 - p.1).toNat)
    (S := fun p => 0 ≤ p.1 ∧ p.1 ≤ p.2 ∧ p.2 ≤ n ∧ (∀ (k : Nat) y, (k : Int) < p.1 → l[k]? = some y → cf y < 0) ∧ (∀ (k : Nat) y, p.2 ≤ (k : Int) → l[k]? = some y → ¬ cf y < 0)) (0, (n : Int)) (J := [])
    ⟨by simp, by simp, by simp, fun k y hk => by simp at hk; omega, fun k y hk hy => by have := (List.getElem?_eq_some_iff.1 hy).1; simp at hk; omega⟩ ⟨rfl, rfl, rfl, rfl, rfl, rfl, trivial⟩ (List.Perm.refl _) ?_
  rintro ⟨i, j⟩ ⟨s1, s2, s3, s4, s5⟩
  simp only at s1 s2 s3 s4 s5
  by_cases hlt : i < j
  · obtain ⟨m, hm⟩ : ∃ m : Nat, (i + j) / 2 = (m : Int) := ⟨((i + j) / 2).toNat, by omega⟩
    have hm2 : ((i + j) / 2).toNat = m := by omega
    obtain ⟨x, hx⟩ : ∃ x, l[m]? = some x := ⟨l[m]'(by omega), List.getElem?_eq_getElem (by omega)⟩
    have hx2 : l[((i + j) / 2).toNat]? = some x := by rw [hm2]; exact hx
    have hfx := (hf x (List.mem_of_getElem? hx)).mono hs
    have hA' := hA (by omega)
    repeat' (first | apply aw_seq | apply aw_region | apply aw_skip | apply aw_block | apply es_nil | apply es_pure hT; iterate 4 exact rfl | apply es_i64 hT; (iterate 4 exact rfl); (iterate 2 omega) | apply es_u64 hT; (iterate 4 exact rfl); (iterate 2 omega) | apply es_half; iterate 6 exact rfl | apply es_idx hT; (iterate 8 exact rfl); (iterate 2 omega); exact hA' | (apply es_load; (iterate 5 exact rfl); first | exact ld_elem hT rfl rfl hr' Quote.enc_len rfl hx2 rfl ) | apply es_callQ (hs := hfx); iterate 7 exact rfl | (apply aw_cond; exact rfl; all_goals (intro hb; (try simp only [hb]); (first | replace hb := odt hb | replace hb := odf hb ); (try omega))))
    · have hcx := hb
      refine ⟨((i + j) / 2 + 1, j), [], by dsimp only; omega, ⟨by dsimp only; omega, by dsimp only; omega, s3, fun k y hk hy => ?_, s5⟩, ⟨rfl, rfl, rfl, rfl, rfl, rfl, trivial⟩, List.Perm.refl _⟩
      exact hmono k m y x (by dsimp only at hk; omega) hy hx hcx
    · have hcx := hb
      refine ⟨(i, (i + j) / 2), [], by dsimp only; omega, ⟨s1, by dsimp only; omega, by dsimp only; omega, s4, fun k y hk hy hneg => hcx (hmono m k x y (by dsimp only at hk; omega) hx hy hneg)⟩, ⟨rfl, rfl, rfl, rfl, rfl, rfl, trivial⟩, List.Perm.refl _⟩
  · obtain ⟨m, hm⟩ : ∃ m : Nat, i = (m : Int) := ⟨i.toNat, by omega⟩
    subst hm
    obtain rfl : j = (m : Int) := by omega
    have hbs : bsN cf l = m := bsN_eq (by omega) (fun k y hk hy => s4 k y (by omega) hy) (fun y hy => s5 m y (by omega) hy)
    by_cases hmn : m < n
    · obtain ⟨x, hx⟩ : ∃ x, l[m]? = some x := ⟨l[m]'(by omega), List.getElem?_eq_getElem (by omega)⟩
      have hx2 : l[(m : Int).toNat]? = some x := by simpa using hx
      have hfx := (hf x (List.mem_of_getElem? hx)).mono hs
      have hA' := hA (by omega)
      have hd : decide ((m : Int) < (n : Int)) = true := by simp; omega
      repeat' (first | apply aw_seq | apply aw_region | apply aw_ret | apply aw_exit | apply es_nil | apply es_pure hT; iterate 4 exact rfl | apply es_idx hT; (iterate 8 exact rfl); (iterate 2 omega); exact hA' | (apply es_load; (iterate 5 exact rfl); first | exact ld_elem hT rfl rfl hr' Quote.enc_len rfl hx2 rfl ) | apply es_callQ (hs := hfx); iterate 7 exact rfl | (apply es_case; exact rfl; all_goals (intro hb; (try simp only [hb]); (first | replace hb := odt hb | replace hb := odf hb ); (try omega))) | (apply aw_cond; exact rfl; all_goals (intro hb; (try simp only [hb]); (first | replace hb := odt hb | replace hb := odf hb ); (try omega))))
      apply ret2; exact rfl; exact rfl
      exact ⟨by rw [bsB, hbs, hx], [], List.Perm.refl _⟩
    · have hx : l[m]? = none := List.getElem?_eq_none (by omega)
      repeat' (first | apply aw_seq | apply aw_region | apply aw_ret | apply aw_exit | apply es_nil | apply es_pure hT; iterate 4 exact rfl | apply es_skip; iterate 3 exact rfl | (apply es_case; exact rfl; all_goals (intro hb; (try simp only [hb]); (first | replace hb := odt hb | replace hb := odf hb ); (try omega))) | (apply aw_cond; exact rfl; all_goals (intro hb; (try simp only [hb]); (first | replace hb := odt hb | replace hb := odf hb ); (try omega))))
      apply ret2; exact rfl; exact rfl
      exact ⟨by rw [bsB, hbs, hx], [], List.Perm.refl _⟩
end Go.Proofs.YtakilgkpfjhfdaaGreat

namespace Go.Proofs.YtakilgkpfjhfdaaGreat
open Go Go.Sl
attribute [local irreducible] AW ES Ld RetQ
set_option maxRecDepth 100000
theorem overlapsQuote (W : World) (h : List Chunk) (gv g n c o m2 c2 : Nat) (vs cur : List Value) (hv : Chunk.own (some ⟨gv, 0, none⟩) 1 1 115 6 vs ∈ h) (hg : Chunk.blk g 115 cur ∈ h) (hne : gv ≠ g) (hcur : cur.length ≠ 0) :
    ∀ w, RepS W h w → (callFunc 172 [Value.slice (some ⟨gv, 0, none⟩) 1 1, .slice (some ⟨g, o, none⟩) m2 c2].toArray).run Tryz.prog w = .ok (.value (.bool false)) w := fun w hw => by
  have h1 := hw.heap_blk hg
  have h2 := (hw.holds _ hv).1
  rcases h2.2 with ⟨hx, _⟩ | ⟨g', cap, cv, hx, _, hgv, _⟩
  · cases hx
  · injection hx with hA _ _
    injection hA with hA
    injection hA with hA _ _
    subst hA
    have hz : ∀ w, (Go.sizeOf 115).run Tryz.prog w = .ok 6 w := fun w => (hT _ _ (rfl : TT.lookup 115 = some ti115)).sz w
    rw [run_callFunc_extern Tryz.func172 (by kernel_rfl) (by kernel_rfl) (by kernel_rfl) (e := Extern.SlicesOverlaps.overlaps #[112, 112] #[4]) (by kernel_rfl)]
    have := Lib.run_overlaps_apart (P := Tryz.prog) w 112 4 115 Tryz.underlying112 6 hz ⟨gv, 0, none⟩ ⟨g, o, none⟩ 1 1 m2 c2 hne 115 115 cv.size cur.length (by simp [World.shape?, hgv]) (by simp [World.shape?, h1]) hcur (by simp [World.frozen?, hgv]) (by simp [World.frozen?, hgv])
    rw [this]
    rfl
theorem insertQuote (W : World) (F : List Chunk) (A : Option Addr) (n c : Nat) (i : Int) (cs : List Value) (gv : Nat) (vs : List Value) (hv : Chunk.own (some ⟨gv, 0, none⟩) 1 1 115 6 vs ∈ F) (h0 : 0 ≤ i) (hin : i ≤ n) (hb : (n + 1) * 48 ≤ 140737488355328) :
    FSpec Tryz.prog W 147 [.slice A n c, .int .i64 i, .slice (some ⟨gv, 0, none⟩) 1 1] (.own A n c 115 6 cs :: F)
      (fun v h' => ∃ A' c', v = .slice A' (n + 1) c' ∧ h' = .own A' (n + 1) c' 115 6 (cs.take (i.toNat * 6) ++ vs ++ cs.drop (i.toNat * 6)) :: F) := by
  obtain ⟨i, rfl⟩ := Int.eq_ofNat_of_zero_le h0
  simp only [Int.toNat_natCast]
  refine FSpec.drop ?_
  refine spec_body Tryz.func147 rfl rfl Tryz.results147 Tryz.ntmps147 rfl rfl ?_
  refine aw_fact mem0 (fun hl hnc hcc hsome hnone hone => ?_)
  refine aw_fact (mcm _ hv) (fun hvl _ _ _ _ hvone => ?_)
  have hvl : vs.length = 6 := by simpa using hvl
  have hrvG : ∀ c0, Reads W (c0 :: F) (some ⟨gv, 0, none⟩) 1 6 vs := fun c0 => Reads.own (mcm _ hv) (by simpa using hvl) hvone
  have hrv := hrvG (.own A n c 115 6 cs)
  have hmin1 : ∀ m, 0 < m → Nat.min 1 m = 1 := fun m hm => by show min 1 m = 1; omega
  have hrs : Reads W (.own A n c 115 6 cs :: F) A n 6 cs := Reads.own mem0 hl hone
  by_cases hi : i = n
  · subst hi
    have he : ((i : Int) == (i : Int)) = true := by simp
    repeat' (first | apply aw_seq | apply aw_region | apply aw_ret | apply aw_skip | apply es_nil | apply es_pure hT; iterate 4 exact rfl | apply es_sliceFrom hT; (iterate 8 exact rfl); (iterate 3 omega); exact rfl | apply aw_condT; exact rfl; exact he | apply es_append hT; (iterate 10 exact rfl); exact sel0; exact hrv; omega; (show (i + 1) * 48 ≤ _; omega); intro A' c' | apply aw_condF; iterate 2 exact rfl)
    apply ret1; exact rfl
    refine ⟨[], _, List.Perm.refl _, A', c', rfl, ?_⟩
    show Chunk.own A' (i + 1) c' 115 6 (cs ++ vs) :: F = _
    rw [List.take_of_length_le (by omega), List.drop_of_length_le (by omega), List.append_nil]
  · have hlt : i < n := by omega
    have he : ((i : Int) == (n : Int)) = false := by simp; omega
    obtain ⟨g, rfl⟩ := hsome (by omega)
    by_cases hroom : n + 1 ≤ c
    ·
      refine aw_conv (fun w hw => ?_)
      have hnd := hw.nodup
      have hgv : gv ≠ g := by
        intro e
        simp only [List.flatMap_cons, List.nodup_append] at hnd
        exact hnd.2.2 g (by simp [Chunk.keys]) g (List.mem_flatMap.2 ⟨_, hv, by simp [Chunk.keys, e]⟩) rfl
      refine ⟨_, hw, ?_⟩
      refine aw_open sel0 (fun cur hcl htk _ _ _ _ => ?_)
      have hr0 : Reads W (.blk g 115 cur :: F) (some ⟨g, 0, none⟩) n 6 cs := Reads.blk mem0 (by simpa using htk) hl hone
      have hr1 := hr0.cut hnc (show i ≤ n by omega) (Nat.le_refl n)
      rw [List.take_of_length_le (by rw [List.length_drop, hl, Nat.sub_mul]; omega), cutA_ne (by omega)] at hr1
      have hdl : (cs.drop (i * 6)).length = (n - i) * 6 := hr1.len
      have hmin2 : Nat.min (n + 1 - i) (n + 1 - (i + 1)) = n - i := by show min (n + 1 - i) (n + 1 - (i + 1)) = n - i; omega
      have hov := overlapsQuote W (.blk g 115 cur :: F) gv g n c ((i + 1) * 6) (n + 1 - (i + 1)) (c - (i + 1)) vs cur (mcm _ hv) mem0 hgv (by omega)
      refine aw_post (Q' := RetQ Tryz.prog W #[ResultVar.tmp 6].toList (fun v h' => v = .slice (some ⟨g, 0, none⟩) (n + 1) c ∧ h' = .blk g 115 (lay (lay cur (i * 6 + vs.length) (cs.drop (i * 6))) (i * 6) vs) :: F)) (retq_conv ?_) ?_
      · rintro v h' ⟨hv', rfl⟩ w hw
        have hb2 := lay_before (cur := cur) (v := vs) (S := cs.drop (i * 6)) (a := i * 6) (by omega)
        rw [hb2] at hw
        have htk2 : cur.take (i * 6) = cs.take (i * 6) := by rw [← htk, List.take_take, Nat.min_eq_left (by omega)]
        have hone2 : ∀ u ∈ cs.take (i * 6) ++ vs ++ cs.drop (i * 6), u.oneCell' = true := fun u hu => by
          simp only [List.mem_append] at hu
          rcases hu with (hu | hu) | hu
          · exact hone u (List.mem_of_mem_take hu)
          · exact hvone u hu
          · exact hone u (List.mem_of_mem_drop hu)
        have hl2 : (cs.take (i * 6) ++ vs ++ cs.drop (i * 6)).length = (n + 1) * 6 := by simp only [List.length_append, List.length_take, hdl, hvl, hl]; omega
        refine ⟨_, hw.shut_ (n := n + 1) (c := c) (k := 6) ?_ ?_ hl2 hroom hcc hone2, [], _, List.Perm.refl _, some ⟨g, 0, none⟩, c, hv', rfl⟩
        · simp only [List.length_append, List.length_take, List.length_drop, hvl, hcl, hl]; omega
        · rw [htk2, ← hl2, List.take_left]
      · repeat' (first | apply aw_seq | apply aw_region | apply aw_ret | apply aw_skip | apply es_nil | apply es_pure hT; iterate 4 exact rfl | apply es_i64 hT; (iterate 4 exact rfl); (iterate 2 omega) | apply aw_draw [] [] hmix; decide +kernel | (apply es_sliceFrom hT; (iterate 8 exact rfl); (iterate 3 omega); first | exact cutA_ne (by omega) ) | apply es_cap hT; iterate 6 exact rfl | apply es_sliceTo hT; (iterate 8 exact rfl); (iterate 2 omega) | apply aw_condF; exact rfl; exact he | apply es_extern; (iterate 6 exact rfl); exact hov | (apply es_copyB hT (k := 6); (iterate 10 exact rfl); exact sel0; exact rfl; exact (show Reads W (.blk g 115 cur :: F) (some ⟨g, i * 6, none⟩) (Nat.min (n + 1 - i) (n + 1 - (i + 1))) 6 (cs.drop (i * 6)) from (by rw [hmin2]; exact hr1)); (show (i + 1) * 6 + (cs.drop (i * 6)).length ≤ cur.length; omega)) | (apply es_copyB hT (k := 6); (iterate 10 exact rfl); exact sel0; exact rfl; exact (show Reads W _ (some ⟨gv, 0, none⟩) (Nat.min 1 (n + 1 - i)) 6 vs from (by rw [hmin1 _ (by omega)]; exact hrvG _)); (show i * 6 + vs.length ≤ (lay cur ((i + 1) * 6) (cs.drop (i * 6))).length; rw [lay_len (by omega)]; omega)) | apply aw_condT; iterate 2 exact rfl | apply aw_condF; iterate 2 exact rfl | (apply aw_cond; exact rfl; all_goals (intro hb; (try simp only [hb]); (first | replace hb := odt hb | replace hb := odf hb ); (try omega))))
        apply ret1; exact rfl
        refine ⟨rfl, ?_⟩
        show Chunk.blk g 115 (lay (lay cur ((i + 1) * 6) (cs.drop (i * 6))) (i * 6) vs) :: F = _
        rw [hvl, ← Nat.succ_mul]
    ·
      have hz : (ti115.zero.cells.toList).length = 6 := rfl
      have hr1 : ∀ c0, Reads W (c0 :: .own (some ⟨g, 0, none⟩) n c 115 6 cs :: F) (some ⟨g, i * 6, none⟩) (n - i) 6 (cs.drop (i * 6)) := fun c0 => by
        have := (Reads.own (W := W) (h := c0 :: .own (some ⟨g, 0, none⟩) n c 115 6 cs :: F) mem1 hl hone).cut hnc (show i ≤ n by omega) (Nat.le_refl n)
        rw [List.take_of_length_le (by rw [List.length_drop, hl, Nat.sub_mul]; omega), cutA_ne (by omega)] at this
        exact this
      have hdl : (cs.drop (i * 6)).length = (n - i) * 6 := (hr1 (.blk 0 0 [])).len
      have hmin3 : Nat.min (n - i) (i + (n + 1 - i) - (i + 1)) = n - i := by show min (n - i) (i + (n + 1 - i) - (i + 1)) = n - i; omega
      refine aw_post (Q' := RetQ Tryz.prog W #[ResultVar.tmp 6].toList (fun v h' => ∃ (g2 c2 : Nat) (cur : List Value), n + 1 ≤ c2 ∧ c2 ≤ 9223372036854775807 ∧ cur.length = c2 * 6 ∧ cur.take (i * 6) = cs.take (i * 6) ∧ v = .slice (some ⟨g2, 0, none⟩) (n + 1) c2 ∧
        h' = .blk g2 115 (lay (lay cur (i * 6) vs) (i * 6 + vs.length) (cs.drop (i * 6))) :: .own (some ⟨g, 0, none⟩) n c 115 6 cs :: F)) (retq_conv ?_) ?_
      · rintro v h' ⟨g2, c2, cur, k1, k2, k3, k4, hv', rfl⟩ w hw
        have ha2 := lay_after (cur := cur) (v := vs) (S := cs.drop (i * 6)) (a := i * 6) (by omega)
        rw [ha2, k4] at hw
        have hone2 : ∀ u ∈ cs.take (i * 6) ++ vs ++ cs.drop (i * 6), u.oneCell' = true := fun u hu => by
          simp only [List.mem_append] at hu
          rcases hu with (hu | hu) | hu
          · exact hone u (List.mem_of_mem_take hu)
          · exact hvone u hu
          · exact hone u (List.mem_of_mem_drop hu)
        have hl2 : (cs.take (i * 6) ++ vs ++ cs.drop (i * 6)).length = (n + 1) * 6 := by simp only [List.length_append, List.length_take, hdl, hvl, hl]; omega
        refine ⟨_, hw.shut_ (n := n + 1) (c := c2) (k := 6) ?_ ?_ hl2 k1 k2 hone2, [.own (some ⟨g, 0, none⟩) n c 115 6 cs], _, sel1, some ⟨g2, 0, none⟩, c2, hv', rfl⟩
        · simp only [List.length_append, List.length_take, List.length_drop, hvl, k3, hl]; omega
        · rw [← hl2, List.take_left]
      · repeat' (first | apply aw_seq | apply aw_region | apply aw_ret | apply aw_skip | apply es_nil | apply es_pure hT; iterate 4 exact rfl | apply es_i64 hT; (iterate 4 exact rfl); (iterate 2 omega) | apply aw_draw [] [] hmix; decide +kernel | apply es_cap hT; iterate 6 exact rfl | apply es_sliceTo hT; (iterate 8 exact rfl); (iterate 2 omega) | (apply es_sliceFrom hT; (iterate 8 exact rfl); (iterate 3 omega); first | exact cutA_ne (by omega) ) | apply aw_condF; exact rfl; exact he | (apply es_appendZ hT (m := n + 1 - i); (iterate 12 exact rfl); omega; exact hrs.take (show i ≤ n by omega); omega; omega; omega; (show (i + (n + 1 - i)) * 48 ≤ _; omega); intro g2 c2 hc2) | (apply es_copyB hT (k := 6); (iterate 10 exact rfl); exact sel0; exact rfl; exact (show Reads W _ (some ⟨gv, 0, none⟩) (Nat.min 1 (i + (n + 1 - i) - i)) 6 vs from (by rw [hmin1 _ (by omega)]; exact (hrvG _).cons)); (show i * 6 + vs.length ≤ cur.length; omega)) | (apply es_copyB hT (k := 6); (iterate 10 exact rfl); exact sel0; exact rfl; exact (show Reads W _ (some ⟨g, i * 6, none⟩) (Nat.min (n - i) (i + (n + 1 - i) - (i + 1))) 6 (cs.drop (i * 6)) from (by rw [hmin3]; exact hr1 _)); (show (i + 1) * 6 + (cs.drop (i * 6)).length ≤ (lay cur (i * 6) vs).length; rw [lay_len (by omega)]; omega)) | apply es_open rfl sel0; intro cur hcl htk hc3 hc4; replace hcl : cur.length = c2 * 6 := hcl | apply aw_condF; iterate 2 exact rfl | (apply aw_cond; exact rfl; all_goals (intro hb; (try simp only [hb]); (first | replace hb := odt hb | replace hb := odf hb ); (try omega))))
        apply ret1; exact rfl
        refine ⟨g2, c2, cur, by omega, hc4, hcl, ?_, by show Value.slice (some ⟨g2, 0, none⟩) (i + (n + 1 - i)) c2 = _; rw [show i + (n + 1 - i) = n + 1 by omega], ?_⟩
        · have e1 : cur.take ((i + (n + 1 - i)) * 6) = cs.take (i * 6) ++ repZ ti115.zero.cells.toList (n + 1 - i) := htk
          have e2 := congrArg (List.take (i * 6)) e1
          rw [List.take_take, Nat.min_eq_left (by omega), List.take_append_of_le_length (by rw [List.length_take]; omega), List.take_take, Nat.min_self] at e2
          exact e2
        · show Chunk.blk g2 115 (lay (lay cur (i * 6) vs) ((i + 1) * 6) (cs.drop (i * 6))) :: _ = _
          rw [hvl, ← Nat.succ_mul]
end Go.Proofs.YtakilgkpfjhfdaaGreat

namespace Go.Proofs.YtakilgkpfjhfdaaGreat
open Go Go.Sl
attribute [local irreducible] AW ES EP Ld RetQ
set_option maxRecDepth 100000
def quoTab (p : Nat) (A : Option Addr) (c : Nat) (l : List Quote) (F : List Chunk) : List Chunk :=
  .blk p 129 [.slice A l.length c] :: .own A l.length c 115 6 (l.flatMap Quote.enc) :: F
def cQ (id : Int) (q : Quote) : Int := cmpI q.id id
def upQ (l : List Quote) : Prop := l.Pairwise fun a b => a.id < b.id
theorem cQ_neg {id : Int} {q : Quote} : cQ id q < 0 ↔ q.id < id := by unfold cQ cmpI; split <;> (try split) <;> omega
theorem upQ_mono {l : List Quote} (h : upQ l) (id : Int) : ∀ (i j : Nat) x y, i ≤ j → l[i]? = some x → l[j]? = some y → cQ id y < 0 → cQ id x < 0 := by
  intro i j x y hij hx hy hd
  rw [cQ_neg] at *
  rcases Nat.lt_or_ge i j with hlt | hge
  · obtain ⟨hi, rfl⟩ := List.getElem?_eq_some_iff.1 hx
    obtain ⟨hj, rfl⟩ := List.getElem?_eq_some_iff.1 hy
    have := List.pairwise_iff_getElem.1 h i j hi hj hlt
    omega
  · obtain rfl : i = j := by omega
    rw [hx] at hy; cases hy; exact hd
theorem quo_find1 (W : World) (q : Quote) (id : Int) : QSpec Tryz.prog W 132 [.agg q.enc.toArray, .int .i64 id] [] (.int .i64 (cQ id q)) := by
  refine QSpec.ofD (fun h' hs => ?_)
  refine spec_body Tryz.func132 rfl rfl Tryz.results132 Tryz.ntmps132 rfl rfl ?_
  repeat' (first | apply aw_seq | apply aw_region | apply aw_ret | apply es_nil | apply es_pure hT; iterate 4 exact rfl | (apply es_callQ (hs := ((cmp64 W _ _).mono (by simp))); iterate 7 exact rfl) | (apply es_load; (iterate 5 exact rfl); first | exact ld_blk hT rfl rfl mem0 rfl rfl ) | apply es_box; (iterate 5 exact rfl); intro _)
  apply ret1; exact rfl
  exact ⟨rfl, dt_skip dt_end⟩
def findV (id : Int) (l : List Quote) : Value := .tuple #[.int .i64 (bsN (cQ id) l), .bool (bsB (cQ id) l)]
theorem quo_find (W : World) (p : Nat) (A : Option Addr) (c : Nat) (l : List Quote) (id : Int) (hb : l.length ≤ 1000000) (hup : upQ l) :
    QSpec Tryz.prog W 76 [.pointer (some ⟨p, 0, none⟩), .int .i64 id] (quoTab p A c l []) (findV id l) := by
  refine QSpec.ofD (fun h' hs => ?_)
  have m1 := hs _ mem0
  have m2 := hs _ mem1
  refine spec_body Tryz.func76 rfl rfl Tryz.results76 Tryz.ntmps76 rfl rfl ?_
  refine aw_fact m2 (fun hl hnc hcc hsome hnone hone => ?_)
  have hr := Reads.own (W := W) m2 hl hone
  have hq : QSpec Tryz.prog W 131 [.slice A l.length c, .int .i64 id, .func (.func 132) #[] #[]] h' (.tuple #[.int .i64 (bsN (cQ id) l), .bool (bsB (cQ id) l)]) :=
    bsearchQuote W _ A _ c l rfl hr _ ⟨id, rfl⟩ _ [] (cQ id) (fun x _ => (quo_find1 W x id).mono (by simp)) (upQ_mono hup id) (by omega)
  repeat' (first | apply aw_seq | apply aw_region | apply aw_ret | apply aw_skip | apply es_nil | apply es_pure hT; iterate 4 exact rfl | apply es_callQ (hs := hq); iterate 7 exact rfl | (apply es_load; (iterate 5 exact rfl); first | exact ld_blk hT rfl rfl m1 rfl rfl ) | apply aw_condF; iterate 2 exact rfl)
  apply ret2; exact rfl; exact rfl
  exact ⟨rfl, dt_end⟩
theorem quo_all (W : World) (h : List Chunk) (p : Nat) (A : Option Addr) (c : Nat) (l : List Quote) (m1 : Chunk.blk p 129 [.slice A l.length c] ∈ h) (hr : Reads W h A l.length 6 (l.flatMap Quote.enc)) (hb : l.length ≤ 1000000)
    (fn : FuncId) (cap : List Value) (is : Quote → Bool) (hf : ∀ x ∈ l, QSpec Tryz.prog W fn ([.agg x.enc.toArray] ++ cap) h (.bool (is x))) :
    FSpec Tryz.prog W 74 [.pointer (some ⟨p, 0, none⟩), .func (.func fn) #[] cap.toArray] h (fun v h' => ∃ A' c', v = .slice A' (l.filter is).length c' ∧ h' = .own A' (l.filter is).length c' 115 6 ((l.filter is).flatMap Quote.enc) :: h ∧ OwnF A' (l.filter is).length c' 6 ((l.filter is).flatMap Quote.enc)) := by
  refine FSpec.dropF ?_
  refine spec_body Tryz.func74 rfl rfl Tryz.results74 Tryz.ntmps74 rfl rfl ?_
  refine aw_reads hr (by rfl) (fun hA => ?_)
  repeat' (first | apply aw_seq | apply aw_region | apply aw_skip | apply aw_block | apply es_nil | apply es_pure hT; iterate 4 exact rfl | (apply es_load; (iterate 5 exact rfl); first | exact ld_blk hT rfl rfl m1 rfl rfl ) | apply aw_condF; iterate 2 exact rfl)
  refine aw_conv (fun w hw => ⟨_, hw.own_nil 115 6, ?_⟩)
  have hfl : ∀ k, ((l.take k).filter is).length ≤ k := fun k => by
    have := List.length_filter_le is (l.take k); simp at this; omega
  refine aw_loop (α := Nat × List Quote × Option Addr × Nat) (E := fun x => [(1, .func (.func fn) #[] cap.toArray), (5, .slice x.2.2.1 x.2.1.length x.2.2.2), (13, .slice A l.length c), (14, .int .i64 l.length), (15, .int .i64 x.1)])
    (H := fun x => .own x.2.2.1 x.2.1.length x.2.2.2 115 6 (x.2.1.flatMap Quote.enc) :: h) (μ := fun x => l.length - x.1)
    (S := fun x => x.1 ≤ l.length ∧ x.2.1 = (l.take x.1).filter is) (0, [], none, 0) (J := []) ⟨Nat.zero_le _, rfl⟩ ⟨rfl, rfl, rfl, rfl, rfl, trivial⟩ (List.Perm.refl _) ?_
  rintro ⟨k, m, A5, c5⟩ ⟨hk, hm⟩
  dsimp only at hk hm ⊢
  have hfk := hfl k
  rw [← hm] at hfk
  by_cases hlt : k < l.length
  · obtain ⟨x, hx⟩ : ∃ x, l[k]? = some x := ⟨l[k]'(by omega), List.getElem?_eq_getElem (by omega)⟩
    have hx2 : l[(k : Int).toNat]? = some x := by simpa using hx
    have hA := hA (by omega)
    have hd1 : decide ((k : Int) < (l.length : Int)) = true := by simp; omega
    have hfx := hf x (List.mem_of_getElem? hx)
    have hstep : (l.take (k + 1)).filter is = m ++ if is x then [x] else [] := by
      rw [List.take_add_one, hx, List.filter_append, ← hm]
      cases hh : is x <;> simp [hh]
    cases hh : is x
    · rw [hh] at hfx hstep
      repeat' (first | apply aw_seq | apply aw_region | apply aw_skip | apply aw_block | apply es_nil | apply es_pure hT; iterate 4 exact rfl | apply es_i64 hT; (iterate 4 exact rfl); (iterate 2 omega) | apply es_idx hT; (iterate 8 exact rfl); (iterate 2 omega); exact hA | apply es_load; (iterate 5 exact rfl); exact ld_elem hT rfl rfl hr.cons Quote.enc_len rfl hx2 rfl | apply es_alloc hT; (iterate 5 exact rfl); intro g7 | apply es_store hT; (iterate 6 exact rfl); exact sel0; (iterate 3 exact rfl); exact nle rfl | apply es_callQ (hs := (hfx.mono (fun c hc => .tail _ (.tail _ hc)))); iterate 7 exact rfl | (apply es_load; (iterate 5 exact rfl); first | exact ld_all hT rfl rfl mem0 rfl) | apply aw_condF; iterate 2 exact rfl | (apply aw_cond; exact rfl; all_goals (intro hb; (try simp only [hb]); (first | replace hb := odt hb | replace hb := odf hb ); (try omega))))
      exact loopq_end (k + 1, m, A5, c5) (by dsimp only; omega) ⟨by dsimp only; omega, by dsimp only; rw [hstep]; simp⟩ ⟨rfl, rfl, rfl, rfl, rfl, trivial⟩ (by apply dt_cons; (first | exact sel1); (repeat (first | exact dt_end | apply dt_skip)))
    · rw [hh] at hfx hstep
      repeat' (first | apply aw_seq | apply aw_region | apply aw_skip | apply aw_block | apply es_nil | apply es_pure hT; iterate 4 exact rfl | apply es_i64 hT; (iterate 4 exact rfl); (iterate 2 omega) | apply es_idx hT; (iterate 8 exact rfl); (iterate 2 omega); exact hA | apply es_load; (iterate 5 exact rfl); exact ld_elem hT rfl rfl hr.cons Quote.enc_len rfl hx2 rfl | apply es_alloc hT; (iterate 5 exact rfl); intro g7 | apply es_store hT; (iterate 6 exact rfl); exact sel0; (iterate 3 exact rfl); exact nle rfl | apply es_callQ (hs := (hfx.mono (fun c hc => .tail _ (.tail _ hc)))); iterate 7 exact rfl | apply es_buildSlice hT; (iterate 12 exact rfl); intro g | (apply es_append hT; (iterate 10 exact rfl); (first | exact selS sel1 ); exact Reads.own mem0 rfl (Quote.enc_one x); omega; (show (_ : Nat) * 48 ≤ _; omega); intro A' c') | (apply es_load; (iterate 5 exact rfl); first | exact ld_all hT rfl rfl mem0 rfl) | apply aw_condT; iterate 2 exact rfl | (apply aw_cond; exact rfl; all_goals (intro hb; (try simp only [hb]); (first | replace hb := odt hb | replace hb := odf hb ); (try omega))))
      refine loopq_end (k + 1, m ++ [x], A', c') (by dsimp only; omega) ⟨by dsimp only; omega, by dsimp only; rw [hstep]; simp⟩ ?_ ?_
      · dsimp only; rw [List.length_append]; exact ⟨rfl, rfl, rfl, rfl, rfl, trivial⟩
      · dsimp only; rw [List.length_append, List.flatMap_append, List.flatMap_singleton]
        apply dt_cons; (first | exact sel0)
        (repeat (first | exact dt_end | apply dt_skip))
  · obtain rfl : k = l.length := by omega
    rw [List.take_length] at hm
    subst hm
    have hd1 : decide ((l.length : Int) < (l.length : Int)) = false := by simp
    repeat' (first | apply aw_seq | apply aw_region | apply aw_ret | apply aw_exit | apply es_nil | apply es_pure hT; iterate 4 exact rfl | (apply aw_cond; exact rfl; all_goals (intro hb; (try simp only [hb]); (first | replace hb := odt hb | replace hb := odf hb ); (try omega))))
    apply ret1; exact rfl
    exact ⟨_, dt_end, fun w hw => ⟨A5, c5, rfl, rfl, hw.ownF mem0⟩⟩
end Go.Proofs.YtakilgkpfjhfdaaGreat

namespace Go.Proofs.YtakilgkpfjhfdaaGreat
open Go Go.Sl
attribute [local irreducible] AW ES Ld RetQ
set_option maxRecDepth 100000
theorem deleteFuncQuote (W : World) (F : List Chunk) (A : Option Addr) (c : Nat) (l : List Quote) (fn : FuncId) (cap : List Value) (p : Quote → Bool)
    (hf : ∀ x ∈ l, QSpec Tryz.prog W fn ([.agg x.enc.toArray] ++ cap) F (.bool (p x))) (hb : l.length ≤ 1000000) :
    FSpec Tryz.prog W 169 [.slice A l.length c, .func (.func fn) #[] cap.toArray] (.own A l.length c 115 6 (l.flatMap Quote.enc) :: F)
      (fun v h' => v = .slice A (l.filter fun x => !p x).length c ∧ h' = .own A (l.filter fun x => !p x).length c 115 6 ((l.filter fun x => !p x).flatMap Quote.enc) :: F) := by
  have hz : (ti115.zero.cells.toList).length = 6 := rfl
  refine FSpec.conv (R := fun v h' => v = .slice A (l.filter fun x => !p x).length c ∧ (h' = .own A (l.filter fun x => !p x).length c 115 6 ((l.filter fun x => !p x).flatMap Quote.enc) :: F ∨
    ∃ (g i : Nat) (m : List Quote) (cur : List Value), A = some ⟨g, 0, none⟩ ∧ i = (l.filter fun x => !p x).length ∧ m.take i = (l.filter fun x => !p x) ∧ m.length = l.length ∧ i ≤ l.length ∧ cur.length = c * 6 ∧ cur.take (l.length * 6) = m.flatMap Quote.enc ∧ l.length ≤ c ∧ c ≤ 9223372036854775807 ∧ (∀ v ∈ m.flatMap Quote.enc, v.oneCell' = true) ∧
      h' = .blk g 115 (lay cur (i * 6) (repZ ti115.zero.cells.toList (l.length - i))) :: F)) ?_ ?_
  rotate_left
  · rintro v h' ⟨hv, h | ⟨g, i, m, cur, rfl, hi, htm, hml, hil, hcl, htk, hnc, hcc, hone, rfl⟩⟩ w hw
    · exact ⟨h', hw, hv, h⟩
    · have hzl : (repZ ti115.zero.cells.toList (l.length - i)).length = (l.length - i) * 6 := by rw [repZ_len, hz]
      have hcut : (lay cur (i * 6) (repZ ti115.zero.cells.toList (l.length - i))).take (i * 6) = (l.filter fun x => !p x).flatMap Quote.enc := by
        rw [take_lay_off (by omega), ← htm, ← flat_take Quote.enc_len, ← htk, List.take_take, Nat.min_eq_left (by omega)]
      refine ⟨_, hw.shut_ (n := i) (c := c) (k := 6) (by rw [lay_len (by omega)]; exact hcl) hcut (by rw [flat_len Quote.enc_len, ← hi]) (by omega) hcc ?_, hv, by rw [← hi]⟩
      intro u hu
      rw [← htm, ← flat_take Quote.enc_len] at hu
      exact hone u (List.mem_of_mem_take hu)
  refine spec_body Tryz.func169 rfl rfl Tryz.results169 Tryz.ntmps169 rfl rfl ?_
  refine aw_fact mem0 (fun hl hnc hcc hsome hnone hone => ?_)
  have hr : Reads W (.own A l.length c 115 6 (l.flatMap Quote.enc) :: F) A l.length 6 (l.flatMap Quote.enc) := Reads.own mem0 hl hone
  have hix := indexFuncQuote W _ A l.length c l rfl hr fn cap p (fun x hx => (hf x hx).mono (fun c hc => .tail _ hc)) (by omega)
  have hge := idxOf_ge (p := p) (l := l)
  have hlt0 := idxOf_lt (p := p) (l := l)
  by_cases hi : idxOf p l = -1
  · have hd : (idxOf p l == -1) = true := by simp [hi]
    have hfl : (l.filter fun x => !p x) = l := List.filter_eq_self.2 (fun x hx => by
      have := idxOf_neg'.1 (show idxOf p l < 0 by omega) x hx
      simp [this])
    repeat' (first | apply aw_seq | apply aw_region | apply aw_ret | apply es_nil | apply es_pure hT; iterate 4 exact rfl | apply es_callQ (hs := hix); iterate 7 exact rfl | (apply aw_cond; exact rfl; all_goals (intro hb; (try simp only [hb]); (first | replace hb := odt hb | replace hb := odf hb ); (try omega))))
    apply ret1; exact rfl
    rw [hfl]
    exact ⟨rfl, .inl rfl⟩
  · have hd : (idxOf p l == -1) = false := by simpa using hi
    obtain ⟨i0, hi0⟩ : ∃ k : Nat, idxOf p l = k := ⟨(idxOf p l).toNat, by omega⟩
    obtain ⟨x0, hx0, hpx0, hbef⟩ := idxOf_first hi0
    rw [hi0] at hix hd hlt0
    obtain ⟨g, rfl⟩ := hsome (by omega)
    repeat' (first | apply aw_seq | apply aw_region | apply aw_skip | apply aw_block | apply es_nil | apply es_pure hT; iterate 4 exact rfl | apply es_i64 hT; (iterate 4 exact rfl); (iterate 2 omega) | apply es_callQ (hs := hix); iterate 7 exact rfl | apply aw_condF; iterate 2 exact rfl)
    refine aw_loop (α := Nat × Nat × List Quote) (E := fun x => [(0, .slice (some ⟨g, 0, none⟩) l.length c), (1, .func (.func fn) #[] cap.toArray), (5, .int .i64 x.2.1), (6, .int .i64 x.1)]) (H := fun x => .own (some ⟨g, 0, none⟩) l.length c 115 6 (x.2.2.flatMap Quote.enc) :: F) (μ := fun x => l.length - x.1)
      (S := fun x => x.1 ≤ l.length ∧ x.2.1 < x.1 ∧ x.2.2.length = l.length ∧ x.2.2.take x.2.1 = (l.take x.1).filter (fun x => !p x) ∧ x.2.2.drop x.1 = l.drop x.1) (i0 + 1, i0, l) (J := []) ⟨by dsimp only; omega, by dsimp only; omega, rfl, by
        dsimp only
        rw [List.take_add_one, hx0, List.filter_append]
        simp only [Option.toList_some, List.filter_cons, hpx0, Bool.not_true, Bool.false_eq_true, if_false, List.filter_nil, List.append_nil]
        refine (List.filter_eq_self.2 (fun y hy => ?_)).symm
        obtain ⟨j, hj⟩ := List.getElem?_of_mem hy
        have hj2 := (List.getElem?_eq_some_iff.1 hj).1
        rw [List.getElem?_take_of_lt (by simp at hj2; omega)] at hj
        simp [hbef j y (by simp at hj2; omega) hj], rfl⟩ ⟨rfl, rfl, rfl, rfl, trivial⟩ (List.Perm.refl _) ?_
    rintro ⟨j, i, m⟩ ⟨s1, s2, s3, s4, s5⟩
    dsimp only at s1 s2 s3 s4 s5 ⊢
    refine aw_fact mem0 (fun hl2 hnc2 _ _ _ hone2 => ?_)
    have hrm : Reads W (.own (some ⟨g, 0, none⟩) l.length c 115 6 (m.flatMap Quote.enc) :: F) (some ⟨g, 0, none⟩) l.length 6 (m.flatMap Quote.enc) := Reads.own mem0 hl2 hone2
    by_cases hlt : j < l.length
    · obtain ⟨x, hx⟩ : ∃ x, l[j]? = some x := ⟨l[j]'(by omega), List.getElem?_eq_getElem (by omega)⟩
      have hxm : m[j]? = some x := by
        have : (m.drop j)[0]? = some x := by rw [s5, List.getElem?_drop]; simpa using hx
        rw [List.getElem?_drop] at this; simpa using this
      have hx2 : m[(j : Int).toNat]? = some x := by simpa using hxm
      have hd1 : decide ((j : Int) < (l.length : Int)) = true := by simp; omega
      have hfx := hf x (List.mem_of_getElem? hx)
      have hstep : (l.take (j + 1)).filter (fun x => !p x) = m.take i ++ if p x then [] else [x] := by
        rw [List.take_add_one, hx, List.filter_append, ← s4]
        cases hh : p x <;> simp [hh]
      have hd5 : m.drop (j + 1) = l.drop (j + 1) := by
        rw [← List.drop_drop (i := 1) (j := j), s5, List.drop_drop]
      obtain ⟨y, hy⟩ : ∃ y, m[i]? = some y := ⟨m[i]'(by omega), List.getElem?_eq_getElem (by omega)⟩
      cases hh : p x
      · rw [hh] at hfx hstep
        have hlay : lay (m.flatMap Quote.enc) (i * 6) x.enc = (m.set i x).flatMap Quote.enc := flat_lay Quote.enc_len (f := 0) hy (Nat.le_of_ble_eq_true rfl) (by simp [lay, Quote.enc_len])
        repeat' (first | apply aw_seq | apply aw_region | apply aw_skip | apply aw_block | apply es_nil | apply es_pure hT; iterate 4 exact rfl | apply es_i64 hT; (iterate 4 exact rfl); (iterate 2 omega) | apply es_idx hT; (iterate 8 exact rfl); (iterate 2 omega); exact rfl | apply es_load; (iterate 5 exact rfl); exact ld_elem hT rfl rfl hrm Quote.enc_len rfl hx2 rfl | apply es_alloc hT; (iterate 5 exact rfl); intro g7 | apply es_store hT; (iterate 6 exact rfl); exact sel0; (iterate 3 exact rfl); exact nle rfl | apply es_callQ (hs := (hfx.mono (fun c hc => .tail _ (.tail _ hc)))); iterate 7 exact rfl | (apply es_storeRow hT; (iterate 6 exact rfl); (first | exact sel1 ); exact rfl; exact rfl; exact rfl; (show i * 6 + 6 ≤ l.length * 6; omega); omega) | (apply es_load; (iterate 5 exact rfl); first | exact ld_all hT rfl rfl mem0 rfl) | apply aw_condT; iterate 2 exact rfl | (apply aw_cond; exact rfl; all_goals (intro hb; (try simp only [hb]); (first | replace hb := odt hb | replace hb := odf hb ); (try omega))))
        refine loopq_end (j + 1, i + 1, m.set i x) (by dsimp only; omega) ⟨by dsimp only; omega, by dsimp only; omega, by dsimp only; simpa using s3, ?_, ?_⟩ ⟨rfl, rfl, rfl, rfl, trivial⟩ ?_
        · dsimp only
          rw [hstep, List.take_add_one, List.getElem?_set_self (by omega), List.take_set_of_le (Nat.le_refl i)]
          simp
        · dsimp only
          rw [List.drop_set_of_lt (by omega), hd5]
        · dsimp only
          rw [← hlay]
          apply dt_cons; (first | exact sel0)
          (repeat (first | exact dt_end | apply dt_skip))
      · rw [hh] at hfx hstep
        repeat' (first | apply aw_seq | apply aw_region | apply aw_skip | apply aw_block | apply es_nil | apply es_pure hT; iterate 4 exact rfl | apply es_i64 hT; (iterate 4 exact rfl); (iterate 2 omega) | apply es_idx hT; (iterate 8 exact rfl); (iterate 2 omega); exact rfl | apply es_load; (iterate 5 exact rfl); exact ld_elem hT rfl rfl hrm Quote.enc_len rfl hx2 rfl | apply es_alloc hT; (iterate 5 exact rfl); intro g7 | apply es_store hT; (iterate 6 exact rfl); exact sel0; (iterate 3 exact rfl); exact nle rfl | apply es_callQ (hs := (hfx.mono (fun c hc => .tail _ (.tail _ hc)))); iterate 7 exact rfl | (apply es_load; (iterate 5 exact rfl); first | exact ld_all hT rfl rfl mem0 rfl) | apply aw_condF; iterate 2 exact rfl | (apply aw_cond; exact rfl; all_goals (intro hb; (try simp only [hb]); (first | replace hb := odt hb | replace hb := odf hb ); (try omega))))
        refine loopq_end (j + 1, i, m) (by dsimp only; omega) ⟨by dsimp only; omega, by dsimp only; omega, s3, by dsimp only; rw [hstep]; simp, hd5⟩ ⟨rfl, rfl, rfl, rfl, trivial⟩ ?_
        apply dt_cons; (first | exact sel1)
        (repeat (first | exact dt_end | apply dt_skip))
    · obtain rfl : j = l.length := by omega
      rw [List.take_length] at s4
      have hd1 : decide ((l.length : Int) < (l.length : Int)) = false := by simp
      have hil : i = (l.filter fun x => !p x).length := by rw [← s4]; simp; omega
      refine aw_open sel0 (fun cur hcl htk _ _ _ _ => ?_)
      repeat' (first | apply aw_seq | apply aw_region | apply aw_ret | apply aw_exit | apply es_nil | apply es_pure hT; iterate 4 exact rfl | apply es_sliceTo hT; (iterate 8 exact rfl); (iterate 2 omega) | (apply es_sliceFrom hT; (iterate 8 exact rfl); (iterate 3 omega); exact cutA_ne (by omega)) | apply es_clear hT (k := 6); (iterate 9 exact rfl); exact sel0; exact rfl; (show i * 6 + (l.length - i) * 6 ≤ cur.length; omega) | (apply aw_cond; exact rfl; all_goals (intro hb; (try simp only [hb]); (first | replace hb := odt hb | replace hb := odf hb ); (try omega))))
      apply ret1; exact rfl
      exact ⟨by rw [← hil]; simp, .inr ⟨g, i, m, cur, rfl, hil, s4, s3, by omega, hcl, htk, hnc, hcc, hone2, rfl⟩⟩
end Go.Proofs.YtakilgkpfjhfdaaGreat

namespace Go.Proofs.YtakilgkpfjhfdaaGreat
open Go Go.Sl
attribute [local irreducible] AW ES EP Ld RetQ
set_option maxRecDepth 100000
def isLive (ask tick : Int) (q : Quote) : Bool := q.ask == ask && q.live && decide (q.expires > tick)
def isAsk (ask : Int) (q : Quote) : Bool := q.ask == ask
theorem quo_Live1 (W : World) (q : Quote) (b1 b2 : Nat) (ask tick : Int) :
    QSpec Tryz.prog W 154 [.agg q.enc.toArray, .pointer (some ⟨b1, 0, none⟩), .pointer (some ⟨b2, 0, none⟩)] [.blk b1 2 [.int .i64 ask], .blk b2 2 [.int .i64 tick]] (.bool (isLive ask tick q)) := by
  refine QSpec.ofD (fun h' hs => ?_)
  have m1 := hs _ mem0
  have m2 := hs _ mem1
  refine spec_body Tryz.func154 rfl rfl Tryz.results154 Tryz.ntmps154 rfl rfl ?_
  cases hl : q.live
  all_goals
    have e : q.enc = [.int .i64 q.id, .int .i64 q.ask, .int .i64 q.dealer, .int .i64 q.price, .int .i64 q.expires, .bool q.live] := rfl
    rw [hl] at e
    rw [e]
    repeat' (first | apply aw_seq | apply aw_region | apply aw_ret | apply es_nil | apply es_pure hT; iterate 4 exact rfl | apply es_skip; iterate 3 exact rfl | (apply es_load; (iterate 5 exact rfl); first | exact ld_blk hT rfl rfl mem0 rfl rfl ) | (apply es_load; (iterate 5 exact rfl); first | exact ld_blk hT rfl rfl (mcm _ m1) rfl rfl ) | (apply es_load; (iterate 5 exact rfl); first | exact ld_blk hT rfl rfl (mcm _ m2) rfl rfl ) | apply es_box; (iterate 5 exact rfl); intro _ | (apply es_case; exact rfl; all_goals (intro hb; (try simp only [hb]); (first | replace hb := odt hb | replace hb := odf hb ); (try omega))))
  all_goals
    apply ret1; exact rfl
    refine ⟨?_, dt_skip dt_end⟩
    simp [isLive, hl, *]
theorem quo_Clear1 (W : World) (q : Quote) (b1 : Nat) (ask : Int) :
    QSpec Tryz.prog W 168 [.agg q.enc.toArray, .pointer (some ⟨b1, 0, none⟩)] [.blk b1 2 [.int .i64 ask]] (.bool (isAsk ask q)) := by
  refine QSpec.ofD (fun h' hs => ?_)
  have m1 := hs _ mem0
  refine spec_body Tryz.func168 rfl rfl Tryz.results168 Tryz.ntmps168 rfl rfl ?_
  repeat' (first | apply aw_seq | apply aw_region | apply aw_ret | apply es_nil | apply es_pure hT; iterate 4 exact rfl | (apply es_load; (iterate 5 exact rfl); first | exact ld_blk hT rfl rfl mem0 rfl rfl ) | (apply es_load; (iterate 5 exact rfl); first | exact ld_blk hT rfl rfl (mcm _ m1) rfl rfl ) | apply es_box; (iterate 5 exact rfl); intro _)
  apply ret1; exact rfl
  exact ⟨rfl, dt_skip dt_end⟩
theorem quo_Clear2 (W : World) (q : Quote) (b1 : Nat) (ask : Int) :
    QSpec Tryz.prog W 170 [.agg q.enc.toArray, .pointer (some ⟨b1, 0, none⟩)] [.blk b1 2 [.int .i64 ask]] (.bool (isAsk ask q)) := by
  refine QSpec.ofD (fun h' hs => ?_)
  have m1 := hs _ mem0
  refine spec_body Tryz.func170 rfl rfl Tryz.results170 Tryz.ntmps170 rfl rfl ?_
  repeat' (first | apply aw_seq | apply aw_region | apply aw_ret | apply es_nil | apply es_pure hT; iterate 4 exact rfl | (apply es_load; (iterate 5 exact rfl); first | exact ld_blk hT rfl rfl mem0 rfl rfl ) | (apply es_load; (iterate 5 exact rfl); first | exact ld_blk hT rfl rfl (mcm _ m1) rfl rfl ) | apply es_box; (iterate 5 exact rfl); intro _)
  apply ret1; exact rfl
  exact ⟨rfl, dt_skip dt_end⟩
theorem quo_Live (W : World) (F : List Chunk) (p : Nat) (A : Option Addr) (c : Nat) (l : List Quote) (ask tick : Int) (hb : l.length ≤ 1000000) :
    FSpec Tryz.prog W 110 [.pointer (some ⟨p, 0, none⟩), .int .i64 ask, .int .i64 tick] (quoTab p A c l F)
      (fun v h' => ∃ A' c', v = .slice A' (l.filter (isLive ask tick)).length c' ∧ h' = .own A' (l.filter (isLive ask tick)).length c' 115 6 ((l.filter (isLive ask tick)).flatMap Quote.enc) :: quoTab p A c l F ∧ OwnF A' (l.filter (isLive ask tick)).length c' 6 ((l.filter (isLive ask tick)).flatMap Quote.enc)) := by
  refine FSpec.dropF ?_
  refine spec_body Tryz.func110 rfl rfl Tryz.results110 Tryz.ntmps110 rfl rfl ?_
  refine aw_fact (h := quoTab p A c l F) mem1 (fun hl hnc hcc hsome hnone hone => ?_)
  have hall : ∀ g1 g2, FSpec Tryz.prog W 74 [.pointer (some ⟨p, 0, none⟩), .func (.func 154) #[] #[.pointer (some ⟨g1, 0, none⟩), .pointer (some ⟨g2, 0, none⟩)]] (.blk g2 2 [.int .i64 tick] :: .blk g1 2 [.int .i64 ask] :: quoTab p A c l F) _ := fun g1 g2 =>
    quo_all W _ p A c l mem2 (Reads.own mem3 hl hone) hb _ [_, _] (isLive ask tick) (fun x _ => (quo_Live1 W x g1 g2 ask tick).mono (by intro c hc; simp only [List.mem_cons, List.not_mem_nil, or_false] at hc; rcases hc with rfl | rfl <;> simp))
  repeat' (first | apply aw_seq | apply aw_region | apply aw_ret | apply es_nil | apply es_pure hT; iterate 4 exact rfl | apply es_call (hs := (hall _ _)); (iterate 7 exact rfl); rintro _ _ ⟨A', c', rfl, rfl, hf⟩ | apply es_box; (iterate 5 exact rfl); intro _)
  apply ret1; exact rfl
  exact ⟨.own A' (l.filter (isLive ask tick)).length c' 115 6 ((l.filter (isLive ask tick)).flatMap Quote.enc) :: quoTab p A c l F, by apply dt_cons; (first | exact sel0); (repeat (first | exact dt_end | apply dt_skip)), fun w hw => ⟨A', c', rfl, rfl, hf⟩⟩
/-! ### getting, killing -/
def zeroQ : Quote := ⟨0, 0, 0, 0, 0, false⟩
def getQ (id : Int) (l : List Quote) : Option Quote := if bsB (cQ id) l then l[bsN (cQ id) l]? else none
theorem getQ_some {id : Int} {l : List Quote} (h : bsB (cQ id) l = true) : ∃ x, l[bsN (cQ id) l]? = some x ∧ x.id = id ∧ getQ id l = some x := by
  unfold bsB at h
  split at h
  · rename_i x hx
    refine ⟨x, hx, ?_, ?_⟩
    · have : cQ id x = 0 := by simpa using h
      unfold cQ cmpI at this; split at this <;> (try split at this) <;> omega
    · unfold getQ bsB; rw [hx]; simp only at h ⊢; rw [if_pos h]
  · cases h
theorem getQ_none {id : Int} {l : List Quote} (h : bsB (cQ id) l = false) : getQ id l = none := by unfold getQ; rw [h]; rfl
def killQ (id : Int) (l : List Quote) : List Quote := match getQ id l with
  | some x => l.set (bsN (cQ id) l) { x with live := false }
  | none => l
def getV (o : Option Quote) : Value := match o with
  | some x => .tuple #[.agg x.enc.toArray, .bool true]
  | none => .tuple #[.agg zeroQ.enc.toArray, .bool false]
theorem quo_Get (W : World) (p : Nat) (A : Option Addr) (c : Nat) (l : List Quote) (id : Int) (hb : l.length ≤ 1000000) (hup : upQ l) :
    QSpec Tryz.prog W 106 [.pointer (some ⟨p, 0, none⟩), .int .i64 id] (quoTab p A c l []) (getV (getQ id l)) := by
  refine QSpec.ofD (fun h' hs => ?_)
  have m1 := hs _ mem0
  have m2 := hs _ mem1
  refine spec_body Tryz.func106 rfl rfl Tryz.results106 Tryz.ntmps106 rfl rfl ?_
  refine aw_fact m2 (fun hl hnc hcc hsome hnone hone => ?_)
  have hr : Reads W h' A l.length 6 (l.flatMap Quote.enc) := Reads.own m2 hl hone
  have hfind := (quo_find W p A c l id hb hup).mono (h' := h') hs
  unfold findV at hfind
  cases hB : bsB (cQ id) l
  · rw [hB] at hfind
    repeat' (first | apply aw_seq | apply aw_region | apply aw_ret | apply es_nil | apply es_pure hT; iterate 4 exact rfl | apply es_alloc hT; (iterate 5 exact rfl); intro g4 | apply es_callQ (hs := (hfind.mono (fun c hc => .tail _ hc))); iterate 7 exact rfl | apply es_build hT; iterate 4 exact rfl | (apply es_store hT; (iterate 6 exact rfl); (first | exact sel0 ); (iterate 3 exact rfl); exact nle rfl) | apply aw_condT; iterate 2 exact rfl)
    apply ret2c; exact rfl; exact ld_all hT rfl rfl mem0 rfl; exact rfl
    exact ⟨by rw [getQ_none hB]; rfl, dt_skip dt_end⟩
  · obtain ⟨x, hx, _, hg⟩ := getQ_some hB
    rw [hB] at hfind
    have hlt := (List.getElem?_eq_some_iff.1 hx).1
    have hx2 : l[((bsN (cQ id) l : Nat) : Int).toNat]? = some x := by simpa using hx
    obtain ⟨g, hA⟩ := hsome (by omega)
    have hA2 : A.isSome = true := by rw [hA]; rfl
    repeat' (first | apply aw_seq | apply aw_region | apply aw_ret | apply aw_skip | apply es_nil | apply es_pure hT; iterate 4 exact rfl | apply es_alloc hT; (iterate 5 exact rfl); intro g4 | apply es_callQ (hs := (hfind.mono (fun c hc => .tail _ hc))); iterate 7 exact rfl | apply es_idx hT; (iterate 8 exact rfl); (iterate 2 omega); exact hA2 | apply es_load; (iterate 5 exact rfl); exact ld_elem hT rfl rfl hr.cons Quote.enc_len rfl hx2 rfl | (apply es_store hT; (iterate 6 exact rfl); (first | exact sel0 ); (iterate 3 exact rfl); exact nle rfl) | (apply es_load; (iterate 5 exact rfl); first | exact ld_blk hT rfl rfl (mcm _ m1) rfl rfl ) | apply aw_condF; iterate 2 exact rfl)
    apply ret2c; exact rfl; exact ld_all hT rfl rfl mem0 rfl; exact rfl
    exact ⟨by rw [hg]; rfl, dt_skip dt_end⟩
theorem quo_Kill (W : World) (F : List Chunk) (p : Nat) (A : Option Addr) (c : Nat) (l : List Quote) (id : Int) (hb : l.length ≤ 1000000) (hup : upQ l) :
    FSpec Tryz.prog W 48 [.pointer (some ⟨p, 0, none⟩), .int .i64 id] (quoTab p A c l F) (fun v h' => v = .bool ((getQ id l).any (·.live)) ∧ h' = quoTab p A c (killQ id l) F) := by
  refine FSpec.dropTo ?_
  refine spec_body Tryz.func48 rfl rfl Tryz.results48 Tryz.ntmps48 rfl rfl ?_
  refine aw_fact (h := quoTab p A c l F) mem1 (fun hl hnc hcc hsome hnone hone => ?_)
  have hr : Reads W (quoTab p A c l F) A l.length 6 (l.flatMap Quote.enc) := Reads.own mem1 hl hone
  have hfind := (quo_find W p A c l id hb hup).mono (h' := quoTab p A c l F) (by intro c hc; simp only [quoTab, List.mem_cons, List.not_mem_nil, or_false] at hc ⊢; rcases hc with rfl | rfl <;> simp)
  unfold findV at hfind
  cases hB : bsB (cQ id) l
  · rw [hB] at hfind
    repeat' (first | apply aw_seq | apply aw_region | apply aw_ret | apply es_nil | apply es_pure hT; iterate 4 exact rfl | apply es_skip; iterate 3 exact rfl | apply es_callQ (hs := hfind); iterate 7 exact rfl | apply aw_condT; iterate 2 exact rfl)
    apply ret1; exact rfl
    exact ⟨_, dt_end, by rw [getQ_none hB]; rfl, by rw [killQ, getQ_none hB]⟩
  · obtain ⟨x, hx, _, hg⟩ := getQ_some hB
    rw [hB] at hfind
    have hlt := (List.getElem?_eq_some_iff.1 hx).1
    have hx2 : l[((bsN (cQ id) l : Nat) : Int).toNat]? = some x := by simpa using hx
    obtain ⟨g, hA⟩ := hsome (by omega)
    have hA2 : A.isSome = true := by rw [hA]; rfl
    have hlay : lay (l.flatMap Quote.enc) (bsN (cQ id) l * 6 + 5) [.bool false] = (l.set (bsN (cQ id) l) { x with live := false }).flatMap Quote.enc := flat_lay Quote.enc_len hx (Nat.le_of_ble_eq_true rfl) rfl
    cases hlv : x.live
    · repeat' (first | apply aw_seq | apply aw_region | apply aw_ret | apply es_nil | apply es_pure hT; iterate 4 exact rfl | apply es_callQ (hs := hfind); iterate 7 exact rfl | apply es_idx hT; (iterate 8 exact rfl); (iterate 2 omega); exact hA2 | (apply es_load; (iterate 5 exact rfl); exact ld_fld hT rfl rfl hr Quote.enc_len (adr_add _ _ _) hx2 (by decide) (show (Quote.enc x)[5]? = some (.bool false) by rw [← hlv]; rfl)) | (apply es_load; (iterate 5 exact rfl); first | exact ld_blk hT rfl rfl mem0 rfl rfl ) | apply aw_condT; iterate 2 exact rfl)
      apply ret1; exact rfl
      refine ⟨_, dt_end, by rw [hg]; simp [hlv], ?_⟩
      rw [killQ, hg]
      have : l.set (bsN (cQ id) l) { x with live := false } = l := by
        have e : ({ x with live := false } : Quote) = x := by rw [← hlv]
        rw [e]; exact set_same hx
      simp only [this]
    · repeat' (first | apply aw_seq | apply aw_region | apply aw_ret | apply aw_skip | apply es_nil | apply es_pure hT; iterate 4 exact rfl | apply es_callQ (hs := hfind); iterate 7 exact rfl | apply es_idx hT; (iterate 8 exact rfl); (iterate 2 omega); exact hA2 | (apply es_load; (iterate 5 exact rfl); exact ld_fld hT rfl rfl hr Quote.enc_len (adr_add _ _ _) hx2 (by decide) (show (Quote.enc x)[5]? = some (.bool true) by rw [← hlv]; rfl)) | apply es_storeRow hT; (iterate 6 exact rfl); exact sel1; exact adr_add _ _ _; exact rfl; exact rfl; (show (bsN (cQ id) l * 6 + 5) + 1 ≤ l.length * 6; omega); omega | (apply es_load; (iterate 5 exact rfl); first | exact ld_blk hT rfl rfl mem0 rfl rfl ) | apply aw_condF; iterate 2 exact rfl)
      apply ret1; exact rfl
      refine ⟨quoTab p A c (killQ id l) F, ?_, by rw [hg]; simp [hlv], rfl⟩
      rw [killQ, hg]
      show DropTo _ (.blk p 129 [.slice A (l.set (bsN (cQ id) l) { x with live := false }).length c] :: .own A (l.set (bsN (cQ id) l) { x with live := false }).length c 115 6 ((l.set (bsN (cQ id) l) { x with live := false }).flatMap Quote.enc) :: F)
      rw [← hlay, List.length_set]
      apply dt_cons; (first | exact sel1)
      apply dt_cons; (first | exact sel0)
      (repeat (first | exact dt_end))
def pullE (id dealer : Int) (l : List Quote) : Int := match getQ id l with
  | none => 4
  | some x => if x.dealer = dealer then (if x.live then 0 else 12) else 5
def pullQ (id dealer : Int) (l : List Quote) : List Quote := if pullE id dealer l = 0 ∨ pullE id dealer l = 12 then killQ id l else l
theorem quo_Pull (W : World) (F : List Chunk) (p : Nat) (A : Option Addr) (c : Nat) (l : List Quote) (id dealer : Int) (hb : l.length ≤ 1000000) (hup : upQ l) :
    FSpec Tryz.prog W 146 [.pointer (some ⟨p, 0, none⟩), .int .i64 id, .int .i64 dealer] (quoTab p A c l F) (fun v h' => v = .int .i64 (pullE id dealer l) ∧ h' = quoTab p A c (pullQ id dealer l) F) := by
  refine FSpec.dropTo ?_
  refine spec_body Tryz.func146 rfl rfl Tryz.results146 Tryz.ntmps146 rfl rfl ?_
  have hget := (quo_Get W p A c l id hb hup).mono (h' := quoTab p A c l F) (by intro c hc; simp only [quoTab, List.mem_cons, List.not_mem_nil, or_false] at hc ⊢; rcases hc with rfl | rfl <;> simp)
  cases hg : getQ id l with
  | none =>
    rw [hg] at hget
    repeat' (first | apply aw_seq | apply aw_region | apply aw_ret | apply aw_block | apply es_nil | apply es_pure hT; iterate 4 exact rfl | apply es_callQ (hs := hget); iterate 7 exact rfl | apply es_alloc hT; (iterate 5 exact rfl); intro g7 | apply es_store hT; (iterate 6 exact rfl); exact sel0; (iterate 3 exact rfl); exact nle rfl | apply aw_condT; iterate 2 exact rfl)
    apply ret1; exact rfl
    exact ⟨quoTab p A c l F, dt_skip dt_end, by simp [pullE, hg], by simp [pullQ, pullE, hg]⟩
  | some x =>
    rw [hg] at hget
    by_cases hd : x.dealer = dealer
    · have hd1 : (x.dealer != dealer) = false := by simpa using hd
      have hkill : ∀ g, FSpec Tryz.prog W 48 [.pointer (some ⟨p, 0, none⟩), .int .i64 id] (.blk g 115 x.enc :: quoTab p A c l F) (fun v h' => v = .bool x.live ∧ h' = quoTab p A c (killQ id l) (.blk g 115 x.enc :: F)) := fun g =>
        ((quo_Kill W (.blk g 115 x.enc :: F) p A c l id hb hup).perm (selS (selS sel0)).symm).mono (fun v h' h => by rw [hg] at h; simpa using h)
      cases hlv : x.live
      · rw [hlv] at hkill
        repeat' (first | apply aw_seq | apply aw_region | apply aw_ret | apply aw_block | apply es_nil | apply es_pure hT; iterate 4 exact rfl | apply es_callQ (hs := hget); iterate 7 exact rfl | apply es_alloc hT; (iterate 5 exact rfl); intro g7 | apply es_store hT; (iterate 6 exact rfl); exact sel0; (iterate 3 exact rfl); exact nle rfl | apply es_call (hs := (hkill _)); (iterate 7 exact rfl); rintro _ _ ⟨rfl, rfl⟩ | (apply es_load; (iterate 5 exact rfl); first | exact ld_blk hT rfl rfl mem0 rfl rfl ) | apply aw_condT; iterate 2 exact rfl | apply aw_condF; iterate 2 exact rfl | (apply aw_cond; exact rfl; all_goals (intro hb; (try simp only [hb]); (first | replace hb := bne_t hb | replace hb := bne_f hb ); (try omega))))
        apply ret1; exact rfl
        exact ⟨quoTab p A c (killQ id l) F, by apply dt_cons; (first | exact sel0); apply dt_cons; (first | exact sel0); (repeat (first | exact dt_end | apply dt_skip)), by simp [pullE, hg, hd, hlv], by simp [pullQ, pullE, hg, hd, hlv]⟩
      · rw [hlv] at hkill
        repeat' (first | apply aw_seq | apply aw_region | apply aw_ret | apply aw_skip | apply aw_block | apply es_nil | apply es_pure hT; iterate 4 exact rfl | apply es_callQ (hs := hget); iterate 7 exact rfl | apply es_alloc hT; (iterate 5 exact rfl); intro g7 | apply es_store hT; (iterate 6 exact rfl); exact sel0; (iterate 3 exact rfl); exact nle rfl | apply es_call (hs := (hkill _)); (iterate 7 exact rfl); rintro _ _ ⟨rfl, rfl⟩ | (apply es_load; (iterate 5 exact rfl); first | exact ld_blk hT rfl rfl mem0 rfl rfl ) | apply aw_condF; iterate 2 exact rfl | (apply aw_cond; exact rfl; all_goals (intro hb; (try simp only [hb]); (first | replace hb := bne_t hb | replace hb := bne_f hb ); (try omega))))
        apply ret1; exact rfl
        exact ⟨quoTab p A c (killQ id l) F, by apply dt_cons; (first | exact sel0); apply dt_cons; (first | exact sel0); (repeat (first | exact dt_end | apply dt_skip)), by simp [pullE, hg, hd, hlv], by simp [pullQ, pullE, hg, hd, hlv]⟩
    · have hd1 : (x.dealer != dealer) = true := by simpa using hd
      repeat' (first | apply aw_seq | apply aw_region | apply aw_ret | apply aw_block | apply es_nil | apply es_pure hT; iterate 4 exact rfl | apply es_callQ (hs := hget); iterate 7 exact rfl | apply es_alloc hT; (iterate 5 exact rfl); intro g7 | apply es_store hT; (iterate 6 exact rfl); exact sel0; (iterate 3 exact rfl); exact nle rfl | (apply es_load; (iterate 5 exact rfl); first | exact ld_blk hT rfl rfl mem0 rfl rfl ) | apply aw_condF; iterate 2 exact rfl | (apply aw_cond; exact rfl; all_goals (intro hb; (try simp only [hb]); (first | replace hb := bne_t hb | replace hb := bne_f hb ); (try omega))))
      apply ret1; exact rfl
      exact ⟨quoTab p A c l F, dt_skip dt_end, by simp [pullE, hg, hd], by simp [pullQ, pullE, hg, hd]⟩
/-! ### putting -/
def metQ (q x : Quote) : Bool := x.ask == q.ask && x.dealer == q.dealer && x.live
def offQ (q x : Quote) : Quote := if metQ q x then { x with live := false } else x
def oldQ (q : Quote) (l : List Quote) : Int := l.foldl (fun o x => if metQ q x then x.id else o) 0
def badQ (q : Quote) (l : List Quote) : Bool := bsB (cQ q.id) l || decide (q.id < 1) || decide (q.ask < 1) || decide (q.price < 1) || decide (q.dealer < 0) || !q.live
def putQ (q : Quote) (l : List Quote) : List Quote := if badQ q l then l else (l.map (offQ q)).take (bsN (cQ q.id) l) ++ [q] ++ (l.map (offQ q)).drop (bsN (cQ q.id) l)
def putV (q : Quote) (l : List Quote) : Value := if badQ q l then .tuple #[.int .i64 0, .int .i64 1] else .tuple #[.int .i64 (oldQ q l), .int .i64 0]
set_option maxHeartbeats 1000000 in
theorem quo_Put (W : World) (F : List Chunk) (p : Nat) (A : Option Addr) (c : Nat) (l : List Quote) (q : Quote) (hb : l.length ≤ 1000000) (hup : upQ l) :
    FSpec Tryz.prog W 104 [.pointer (some ⟨p, 0, none⟩), .agg q.enc.toArray] (quoTab p A c l F) (fun v h' => v = putV q l ∧ ∃ A' c', h' = quoTab p A' c' (putQ q l) F) := by
  refine FSpec.dropTo ?_
  refine spec_body Tryz.func104 rfl rfl Tryz.results104 Tryz.ntmps104 rfl rfl ?_
  refine aw_fact (h := quoTab p A c l F) mem1 (fun hl hnc hcc hsome hnone hone => ?_)
  have hfind : ∀ g, QSpec Tryz.prog W 76 [.pointer (some ⟨p, 0, none⟩), .int .i64 q.id] (.blk g 115 q.enc :: quoTab p A c l F) (findV q.id l) := fun g => (quo_find W p A c l q.id hb hup).mono (by intro c hc; simp only [quoTab, List.mem_cons, List.not_mem_nil, or_false] at hc ⊢; rcases hc with rfl | rfl <;> simp)
  unfold findV at hfind
  by_cases hbad : badQ q l = true
  · have hp : putQ q l = l := by simp [putQ, hbad]
    have hv : putV q l = .tuple #[.int .i64 0, .int .i64 1] := by simp [putV, hbad]
    cases hB : bsB (cQ q.id) l
    all_goals
      rw [hB] at hfind
      repeat' (first | apply aw_seq | apply aw_region | apply aw_ret | apply aw_skip | apply aw_block | apply es_nil | apply es_pure hT; iterate 4 exact rfl | apply es_skip; iterate 3 exact rfl | apply es_callQ (hs := (hfind _)); iterate 7 exact rfl | (apply es_load; (iterate 5 exact rfl); first | exact ld_blk hT rfl rfl mem0 rfl rfl ) | (apply es_load; (iterate 5 exact rfl); first | exact ld_blk hT rfl rfl mem1 rfl rfl ) | apply es_box; (iterate 5 exact rfl); intro _ | apply aw_condT; iterate 2 exact rfl | (apply es_case; exact rfl; all_goals (intro hb; (try simp only [hb]); (first | replace hb := odt hb | replace hb := odf hb ); (try omega))) | (apply aw_cond; exact rfl; all_goals (intro hb; (try simp only [hb]); (first | skip); (try omega))))
    all_goals first
      | (apply ret2; exact rfl; exact rfl; exact ⟨quoTab p A c l F, dt_skip dt_end, hv.symm, A, c, by rw [hp]⟩)
      | skip
    all_goals (exfalso; simp_all [badQ]; try omega)
  · have hbad2 : badQ q l = false := by simpa using hbad
    have hv : putV q l = .tuple #[.int .i64 (oldQ q l), .int .i64 0] := by simp [putV, hbad]
    simp only [badQ, Bool.or_eq_false_iff, decide_eq_false_iff_not, Bool.not_eq_false'] at hbad2
    obtain ⟨⟨⟨⟨⟨hB, k1⟩, k2⟩, k3⟩, k4⟩, k5⟩ := hbad2
    have e1 : decide (q.id < 1) = false := by simpa using k1
    rw [hB] at hfind
    repeat' (first | apply aw_seq | apply aw_region | apply aw_ret | apply aw_skip | apply aw_block | apply es_nil | apply es_pure hT; iterate 4 exact rfl | apply es_box; (iterate 5 exact rfl); intro g3 | apply es_callQ (hs := (hfind _)); iterate 7 exact rfl | (apply es_load; (iterate 5 exact rfl); first | exact ld_blk hT rfl rfl mem0 rfl rfl ) | (apply es_load; (iterate 5 exact rfl); first | exact ld_blk hT rfl rfl mem1 rfl rfl ) | (apply es_case; exact rfl; all_goals (intro hb; (try simp only [hb]); (first | replace hb := odt hb | replace hb := odf hb ); (try omega))) | (apply aw_cond; exact rfl; all_goals (intro hb; (try simp only [hb]); (first | skip); (try omega))))
    · exfalso; simp_all
    refine aw_loop (α := Nat × Int × List Quote) (E := fun x => [(0, .pointer (some ⟨p, 0, none⟩)), (3, .pointer (some ⟨g3, 0, none⟩)), (4, .int .i64 x.2.1), (6, .int .i64 (bsN (cQ q.id) l)), (51, .int .i64 l.length), (52, .int .i64 x.1)])
      (H := fun x => .blk g3 115 q.enc :: .blk p 129 [.slice A l.length c] :: .own A l.length c 115 6 (x.2.2.flatMap Quote.enc) :: F) (μ := fun x => l.length - x.1)
      (S := fun x => x.1 ≤ l.length ∧ x.2.1 = oldQ q (l.take x.1) ∧ x.2.2 = (l.take x.1).map (offQ q) ++ l.drop x.1) (0, 0, l) (J := []) ⟨Nat.zero_le _, rfl, rfl⟩ ⟨rfl, rfl, rfl, rfl, rfl, rfl, trivial⟩ (List.Perm.refl _) ?_
    rintro ⟨k, old, m⟩ ⟨s1, s2, s3⟩
    dsimp only at s1 s2 s3 ⊢
    have hml : m.length = l.length := by rw [s3]; simp; omega
    have hrd : ∀ h, Chunk.own A l.length c 115 6 (m.flatMap Quote.enc) ∈ h → Reads W h A l.length 6 (m.flatMap Quote.enc) := fun h hm => Reads.own hm (by rw [flat_len Quote.enc_len, hml]) (fun v hv => by obtain ⟨y, _, hy⟩ := List.mem_flatMap.1 hv; exact Quote.enc_one y v hy)
    by_cases hlt : k < l.length
    · obtain ⟨x, hx⟩ : ∃ x, l[k]? = some x := ⟨l[k]'(by omega), List.getElem?_eq_getElem (by omega)⟩
      have hlk : ((l.take k).map (offQ q)).length = k := by simp; omega
      have hxm : m[k]? = some x := by rw [s3, List.getElem?_append_right (by omega), hlk]; simpa using hx
      have hx2 : m[(k : Int).toNat]? = some x := by simpa using hxm
      obtain ⟨g, hA⟩ := hsome (by omega)
      have hA2 : A.isSome = true := by rw [hA]; rfl
      have hd1 : decide ((k : Int) < (l.length : Int)) = true := by simp; omega
      have hset : m.set k (offQ q x) = (l.take (k + 1)).map (offQ q) ++ l.drop (k + 1) := by
        rw [s3, List.set_append_right _ _ (by omega), hlk, Nat.sub_self, List.take_add_one, hx, List.drop_eq_getElem_cons hlt, List.set_cons_zero]
        simp
      have hold : oldQ q (l.take (k + 1)) = if metQ q x then x.id else old := by
        rw [List.take_add_one, hx, oldQ, List.foldl_append, s2]; rfl
      cases hmet : metQ q x
      · have hoff : m.set k (offQ q x) = m := by rw [show offQ q x = x by simp [offQ, hmet]]; exact set_same hxm
        rw [hoff] at hset
        rw [hmet] at hold
        repeat' (first | apply aw_seq | apply aw_region | apply aw_skip | apply aw_block | apply es_nil | apply es_pure hT; iterate 4 exact rfl | apply es_skip; iterate 3 exact rfl | apply es_i64 hT; (iterate 4 exact rfl); (iterate 2 omega) | apply aw_draw [] [] hmix; decide +kernel | apply es_idx hT; (iterate 8 exact rfl); (iterate 2 omega); exact hA2 | (apply es_load; (iterate 5 exact rfl); exact ld_fld hT rfl rfl (hrd _ mem2) Quote.enc_len (adr_add _ _ _) hx2 (by decide) rfl) | (apply es_load; (iterate 5 exact rfl); first | exact ld_blk hT rfl rfl mem0 rfl rfl ) | (apply es_load; (iterate 5 exact rfl); first | exact ld_blk hT rfl rfl mem1 rfl rfl ) | apply aw_condF; iterate 2 exact rfl | (apply es_case; exact rfl; all_goals (intro hb; (try simp only [hb]); (first | replace hb := odt hb | replace hb := odf hb ); (try omega))) | (apply aw_cond; exact rfl; all_goals (intro hb; (try simp only [hb]); (first | replace hb := odt hb | replace hb := odf hb | skip); (try omega))))
        all_goals first
          | exact loopq_end (k + 1, old, m) (by dsimp only; omega) ⟨by dsimp only; omega, hold.symm, hset⟩ ⟨rfl, rfl, rfl, rfl, rfl, rfl, trivial⟩ dt_end
          | (exfalso; simp_all [metQ])
      · have hoff : offQ q x = { x with live := false } := by simp [offQ, hmet]
        rw [hoff] at hset
        rw [hmet] at hold
        have hlay : lay (m.flatMap Quote.enc) (k * 6 + 5) [.bool false] = (m.set k { x with live := false }).flatMap Quote.enc := flat_lay Quote.enc_len hxm (Nat.le_of_ble_eq_true rfl) rfl
        have hrd2 : ∀ h, Chunk.own A l.length c 115 6 (lay (m.flatMap Quote.enc) (k * 6 + 5) [.bool false]) ∈ h → Reads W h A l.length 6 ((m.set k { x with live := false }).flatMap Quote.enc) := fun h hm => by
          rw [hlay] at hm
          exact Reads.own hm (by rw [flat_len Quote.enc_len, List.length_set, hml]) (fun v hv => by obtain ⟨y, _, hy⟩ := List.mem_flatMap.1 hv; exact Quote.enc_one y v hy)
        have hx3 : (m.set k { x with live := false })[(k : Int).toNat]? = some { x with live := false } := by
          rw [Int.toNat_natCast, List.getElem?_set_self (by omega)]
        have hmet' := hmet
        simp only [metQ, Bool.and_eq_true, beq_iff_eq] at hmet'
        obtain ⟨⟨n1, n2⟩, n3⟩ := hmet'
        repeat' (first | apply aw_seq | apply aw_region | apply aw_skip | apply aw_block | apply es_nil | apply es_pure hT; iterate 4 exact rfl | apply es_i64 hT; (iterate 4 exact rfl); (iterate 2 omega) | apply aw_draw [] [] hmix; decide +kernel | apply es_idx hT; (iterate 8 exact rfl); (iterate 2 omega); exact hA2 | (apply es_load; (iterate 5 exact rfl); first | exact ld_fld hT rfl rfl (hrd _ mem2) Quote.enc_len (adr_add _ _ _) hx2 (by decide) rfl | exact ld_fld hT rfl rfl (hrd2 _ mem0) Quote.enc_len (adr_add _ _ _) hx3 (by decide) rfl) | (apply es_storeRow hT; (iterate 6 exact rfl); (first | exact selS sel1 ); exact adr_add _ _ _; exact rfl; exact rfl; (show (k * 6 + 5) + 1 ≤ l.length * 6; omega); omega) | (apply es_load; (iterate 5 exact rfl); first | exact ld_blk hT rfl rfl mem0 rfl rfl ) | (apply es_load; (iterate 5 exact rfl); first | exact ld_blk hT rfl rfl mem1 rfl rfl ) | (apply es_case; exact rfl; all_goals (intro hb; (try simp only [hb]); (first | replace hb := odt hb | replace hb := odf hb ); (try omega))) | (apply aw_cond; exact rfl; all_goals (intro hb; (try simp only [hb]); (first | replace hb := odt hb | replace hb := odf hb | skip); (try omega))))
        all_goals first
          | (refine loopq_end (k + 1, x.id, m.set k { x with live := false }) (by dsimp only; omega) ⟨by dsimp only; omega, hold.symm, hset⟩ ⟨rfl, rfl, rfl, rfl, rfl, rfl, trivial⟩ ?_
             dsimp only
             rw [← hlay]
             apply dt_cons; (first | exact sel1)
             apply dt_cons; (first | exact sel1)
             apply dt_cons; (first | exact sel0)
             (repeat (first | exact dt_end)))
          | (exfalso; simp_all)
    · obtain rfl : k = l.length := by omega
      have hd1 : decide ((l.length : Int) < (l.length : Int)) = false := by simp
      rw [List.take_length] at s2 s3
      rw [List.drop_length, List.append_nil] at s3
      subst s2 s3
      have hle := bsN_le (c := cQ q.id) (l := l)
      have hpq : putQ q l = (l.map (offQ q)).take (bsN (cQ q.id) l) ++ [q] ++ (l.map (offQ q)).drop (bsN (cQ q.id) l) := by simp [putQ, hbad]
      have hplen : (putQ q l).length = l.length + 1 := by rw [hpq]; simp; omega
      have hc : ((l.map (offQ q)).flatMap Quote.enc).take ((bsN (cQ q.id) l) * 6) ++ q.enc ++ ((l.map (offQ q)).flatMap Quote.enc).drop ((bsN (cQ q.id) l) * 6) = (putQ q l).flatMap Quote.enc := by
        rw [flat_take Quote.enc_len, flat_drop Quote.enc_len, hpq]; simp
      have hins : ∀ gv, FSpec Tryz.prog W 147 [.slice A l.length c, .int .i64 (bsN (cQ q.id) l), .slice (some ⟨gv, 0, none⟩) 1 1] (.own (some ⟨gv, 0, none⟩) 1 1 115 6 q.enc :: .blk g3 115 q.enc :: .blk p 129 [.slice A l.length c] :: .own A l.length c 115 6 ((l.map (offQ q)).flatMap Quote.enc) :: F) _ := fun gv =>
        (insertQuote W (.own (some ⟨gv, 0, none⟩) 1 1 115 6 q.enc :: .blk g3 115 q.enc :: .blk p 129 [.slice A l.length c] :: F) A l.length c (bsN (cQ q.id) l) ((l.map (offQ q)).flatMap Quote.enc) gv q.enc mem0 (by omega) (by omega) (by omega)).perm (selS (selS (selS sel0)))
      repeat' (first | apply aw_seq | apply aw_region | apply aw_ret | apply aw_exit | apply es_nil | apply es_pure hT; iterate 4 exact rfl | apply aw_draw [] [] hmix; decide +kernel | apply es_buildSlice hT; (iterate 12 exact rfl); intro gv | apply es_call (hs := (hins _)); (iterate 7 exact rfl); rintro _ _ ⟨A', c', rfl, rfl⟩ | (apply es_store hT; (iterate 6 exact rfl); (first | exact selS (selS sel1) ); (iterate 3 exact rfl); exact nle rfl) | (apply es_load; (iterate 5 exact rfl); first | exact ld_all hT rfl rfl mem0 rfl) | (apply es_load; (iterate 5 exact rfl); first | exact ld_blk hT rfl rfl mem1 rfl rfl ) | (apply aw_cond; exact rfl; all_goals (intro hb; (try simp only [hb]); (first | replace hb := odt hb | replace hb := odf hb ); (try omega))))
      apply ret2; exact rfl; exact rfl
      refine ⟨quoTab p A' c' (putQ q l) F, ?_, hv.symm, A', c', rfl⟩
      rw [quoTab, hplen, ← hc]
      apply dt_cons; (first | exact sel0)
      apply dt_cons; (first | exact sel0)
      (repeat (first | exact dt_end | apply dt_skip))
end Go.Proofs.YtakilgkpfjhfdaaGreat

namespace Go.Proofs.YtakilgkpfjhfdaaGreat
open Go Go.Sl
attribute [local irreducible] AW ES Ld RetQ
set_option maxRecDepth 100000
theorem cloneAskR (W : World) (h : List Chunk) (A : Option Addr) (n c : Nat) (cs : List Value) (hr : Reads W h A n 10 cs) (hb : n * 80 ≤ 140737488355328) :
    FSpec Tryz.prog W 85 [.slice A n c] h (fun v h' => ∃ A' c', v = .slice A' n c' ∧ h' = .own A' n c' 68 10 cs :: h) := by
  refine FSpec.drop ?_
  refine spec_body Tryz.func85 rfl rfl Tryz.results85 Tryz.ntmps85 rfl rfl ?_
  refine aw_reads hr rfl (fun hA => ?_)
  cases A with
  | none =>
    have hn : n = 0 := by
      rcases Nat.eq_zero_or_pos n with h | h
      · exact h
      · have := hA h; simp at this
    subst hn
    have hcs : cs = [] := List.eq_nil_of_length_eq_zero (by simpa using hr.len)
    subst hcs
    refine aw_conv (fun w hw => ⟨_, hw.own_nil 68 10, ?_⟩)
    repeat' (first | apply aw_seq | apply aw_region | apply aw_ret | apply es_nil | apply es_pure hT; iterate 4 exact rfl | apply aw_condT; iterate 2 exact rfl)
    apply ret1; exact rfl
    exact ⟨[], _, List.Perm.refl _, none, 0, rfl, rfl⟩
  | some ad =>
    repeat' (first | apply aw_seq | apply aw_region | apply aw_ret | apply aw_skip | apply es_nil | apply es_pure hT; iterate 4 exact rfl | apply es_buildSlice hT; (iterate 12 exact rfl); intro g1 | apply es_append hT; (iterate 10 exact rfl); exact sel0; exact hr.cons; omega; (show (0 + n) * 80 ≤ _; omega); intro A' c' | apply aw_condF; iterate 2 exact rfl)
    apply ret1; exact rfl
    refine ⟨[], _, List.Perm.refl _, A', c', by rw [Nat.zero_add], ?_⟩
    show Chunk.own A' (0 + n) c' 68 10 ([] ++ cs) :: h = _
    simp
end Go.Proofs.YtakilgkpfjhfdaaGreat

namespace Go.Proofs.YtakilgkpfjhfdaaGreat
open Go Go.Sl
attribute [local irreducible] AW ES Ld RetQ
set_option maxRecDepth 100000
theorem bsearchAskR (W : World) (h : List Chunk) (A : Option Addr) (n c : Nat) (l : List AskR) (hn : l.length = n) (hr : Reads W h A n 10 (l.flatMap AskR.enc)) (tgt : Value) (htg : ∃ a, tgt = .int .i64 a) (fn : FuncId) (cap : List Value) (cf : AskR → Int)
    (hf : ∀ x ∈ l, QSpec Tryz.prog W fn ([.agg x.enc.toArray, tgt] ++ cap) h (.int .i64 (cf x))) (hmono : ∀ (i j : Nat) x y, i ≤ j → l[i]? = some x → l[j]? = some y → cf y < 0 → cf x < 0) (hb : n ≤ 2305843009213693951) :
    QSpec Tryz.prog W 135 [.slice A n c, tgt, .func (.func fn) #[] cap.toArray] h (.tuple #[.int .i64 (bsN cf l), .bool (bsB cf l)]) := by
  obtain ⟨ta, rfl⟩ := htg
  refine QSpec.of (fun h' hs => ?_)
  have hr' := hr.mono hs
  refine spec_body Tryz.func135 rfl rfl Tryz.results135 Tryz.ntmps135 rfl rfl ?_
  refine aw_reads hr' rfl (fun hA => ?_)
  repeat' (first | apply aw_seq | apply aw_region | apply aw_block | apply es_nil | apply es_pure hT; iterate 4 exact rfl)
  refine aw_loop (α := Int × Int) (E := fun p => [(0, .slice A n c), (2, .func (.func fn) #[] cap.toArray), (1, .int .i64 ta), (8, .int .i64 n), (9, .int .i64 p.1), (10, .int .i64 p.2)]) (H := fun _ => _) (μ := fun p => (p.2 - p.1).toNat)
    (S := fun p => 0 ≤ p.1 ∧ p.1 ≤ p.2 ∧ p.2 ≤ n ∧ (∀ (k : Nat) y, (k : Int) < p.1 → l[k]? = some y → cf y < 0) ∧ (∀ (k : Nat) y, p.2 ≤ (k : Int) → l[k]? = some y → ¬ cf y < 0)) (0, (n : Int)) (J := [])
    ⟨by simp, by simp, by simp, fun k y hk => by simp at hk; omega, fun k y hk hy => by have := (List.getElem?_eq_some_iff.1 hy).1; simp at hk; omega⟩ ⟨rfl, rfl, rfl, rfl, rfl, rfl, trivial⟩ (List.Perm.refl _) ?_
  rintro ⟨i, j⟩ ⟨s1, s2, s3, s4, s5⟩
  simp only at s1 s2 s3 s4 s5
  by_cases hlt : i < j
  · obtain ⟨m, hm⟩ : ∃ m : Nat, (i + j) / 2 = (m : Int) := ⟨((i + j) / 2).toNat, by omega⟩
    have hm2 : ((i + j) / 2).toNat = m := by omega
    obtain ⟨x, hx⟩ : ∃ x, l[m]? = some x := ⟨l[m]'(by omega), List.getElem?_eq_getElem (by omega)⟩
    have hx2 : l[((i + j) / 2).toNat]? = some x := by rw [hm2]; exact hx
    have hfx := (hf x (List.mem_of_getElem? hx)).mono hs
    have hA' := hA (by omega)
    repeat' (first | apply aw_seq | apply aw_region | apply aw_skip | apply aw_block | apply es_nil | apply es_pure hT; iterate 4 exact rfl | apply es_i64 hT; (iterate 4 exact rfl); (iterate 2 omega) | apply es_u64 hT; (iterate 4 exact rfl); (iterate 2 omega) | apply es_half; iterate 6 exact rfl | apply es_idx hT; (iterate 8 exact rfl); (iterate 2 omega); exact hA' | (apply es_load; (iterate 5 exact rfl); first | exact ld_elem hT rfl rfl hr' AskR.enc_len rfl hx2 rfl ) | apply es_callQ (hs := hfx); iterate 7 exact rfl | (apply aw_cond; exact rfl; all_goals (intro hb; (try simp only [hb]); (first | replace hb := odt hb | replace hb := odf hb ); (try omega))))
    · have hcx := hb
      refine ⟨((i + j) / 2 + 1, j), [], by dsimp only; omega, ⟨by dsimp only; omega, by dsimp only; omega, s3, fun k y hk hy => ?_, s5⟩, ⟨rfl, rfl, rfl, rfl, rfl, rfl, trivial⟩, List.Perm.refl _⟩
      exact hmono k m y x (by dsimp only at hk; omega) hy hx hcx
    · have hcx := hb
      refine ⟨(i, (i + j) / 2), [], by dsimp only; omega, ⟨s1, by dsimp only; omega, by dsimp only; omega, s4, fun k y hk hy hneg => hcx (hmono m k x y (by dsimp only at hk; omega) hx hy hneg)⟩, ⟨rfl, rfl, rfl, rfl, rfl, rfl, trivial⟩, List.Perm.refl _⟩
  · obtain ⟨m, hm⟩ : ∃ m : Nat, i = (m : Int) := ⟨i.toNat, by omega⟩
    subst hm
    obtain rfl : j = (m : Int) := by omega
    have hbs : bsN cf l = m := bsN_eq (by omega) (fun k y hk hy => s4 k y (by omega) hy) (fun y hy => s5 m y (by omega) hy)
    by_cases hmn : m < n
    · obtain ⟨x, hx⟩ : ∃ x, l[m]? = some x := ⟨l[m]'(by omega), List.getElem?_eq_getElem (by omega)⟩
      have hx2 : l[(m : Int).toNat]? = some x := by simpa using hx
      have hfx := (hf x (List.mem_of_getElem? hx)).mono hs
      have hA' := hA (by omega)
      have hd : decide ((m : Int) < (n : Int)) = true := by simp; omega
      repeat' (first | apply aw_seq | apply aw_region | apply aw_ret | apply aw_exit | apply es_nil | apply es_pure hT; iterate 4 exact rfl | apply es_idx hT; (iterate 8 exact rfl); (iterate 2 omega); exact hA' | (apply es_load; (iterate 5 exact rfl); first | exact ld_elem hT rfl rfl hr' AskR.enc_len rfl hx2 rfl ) | apply es_callQ (hs := hfx); iterate 7 exact rfl | (apply es_case; exact rfl; all_goals (intro hb; (try simp only [hb]); (first | replace hb := odt hb | replace hb := odf hb ); (try omega))) | (apply aw_cond; exact rfl; all_goals (intro hb; (try simp only [hb]); (first | replace hb := odt hb | replace hb := odf hb ); (try omega))))
      apply ret2; exact rfl; exact rfl
      exact ⟨by rw [bsB, hbs, hx], [], List.Perm.refl _⟩
    · have hx : l[m]? = none := List.getElem?_eq_none (by omega)
      repeat' (first | apply aw_seq | apply aw_region | apply aw_ret | apply aw_exit | apply es_nil | apply es_pure hT; iterate 4 exact rfl | apply es_skip; iterate 3 exact rfl | (apply es_case; exact rfl; all_goals (intro hb; (try simp only [hb]); (first | replace hb := odt hb | replace hb := odf hb ); (try omega))) | (apply aw_cond; exact rfl; all_goals (intro hb; (try simp only [hb]); (first | replace hb := odt hb | replace hb := odf hb ); (try omega))))
      apply ret2; exact rfl; exact rfl
      exact ⟨by rw [bsB, hbs, hx], [], List.Perm.refl _⟩
end Go.Proofs.YtakilgkpfjhfdaaGreat

namespace Go.Proofs.YtakilgkpfjhfdaaGreat
open Go Go.Sl
attribute [local irreducible] AW ES Ld RetQ
set_option maxRecDepth 100000
theorem overlapsAskR (W : World) (h : List Chunk) (gv g n c o m2 c2 : Nat) (vs cur : List Value) (hv : Chunk.own (some ⟨gv, 0, none⟩) 1 1 68 10 vs ∈ h) (hg : Chunk.blk g 68 cur ∈ h) (hne : gv ≠ g) (hcur : cur.length ≠ 0) :
    ∀ w, RepS W h w → (callFunc 189 [Value.slice (some ⟨gv, 0, none⟩) 1 1, .slice (some ⟨g, o, none⟩) m2 c2].toArray).run Tryz.prog w = .ok (.value (.bool false)) w := fun w hw => by
  have h1 := hw.heap_blk hg
  have h2 := (hw.holds _ hv).1
  rcases h2.2 with ⟨hx, _⟩ | ⟨g', cap, cv, hx, _, hgv, _⟩
  · cases hx
  · injection hx with hA _ _
    injection hA with hA
    injection hA with hA _ _
    subst hA
    have hz : ∀ w, (Go.sizeOf 68).run Tryz.prog w = .ok 10 w := fun w => (hT _ _ (rfl : TT.lookup 68 = some ti68)).sz w
    rw [run_callFunc_extern Tryz.func189 (by kernel_rfl) (by kernel_rfl) (by kernel_rfl) (e := Extern.SlicesOverlaps.overlaps #[64, 64] #[4]) (by kernel_rfl)]
    have := Lib.run_overlaps_apart (P := Tryz.prog) w 64 4 68 Tryz.underlying64 10 hz ⟨gv, 0, none⟩ ⟨g, o, none⟩ 1 1 m2 c2 hne 68 68 cv.size cur.length (by simp [World.shape?, hgv]) (by simp [World.shape?, h1]) hcur (by simp [World.frozen?, hgv]) (by simp [World.frozen?, hgv])
    rw [this]
    rfl
theorem insertAskR (W : World) (F : List Chunk) (A : Option Addr) (n c : Nat) (i : Int) (cs : List Value) (gv : Nat) (vs : List Value) (hv : Chunk.own (some ⟨gv, 0, none⟩) 1 1 68 10 vs ∈ F) (h0 : 0 ≤ i) (hin : i ≤ n) (hb : (n + 1) * 80 ≤ 140737488355328) :
    FSpec Tryz.prog W 162 [.slice A n c, .int .i64 i, .slice (some ⟨gv, 0, none⟩) 1 1] (.own A n c 68 10 cs :: F)
      (fun v h' => ∃ A' c', v = .slice A' (n + 1) c' ∧ h' = .own A' (n + 1) c' 68 10 (cs.take (i.toNat * 10) ++ vs ++ cs.drop (i.toNat * 10)) :: F) := by
  obtain ⟨i, rfl⟩ := Int.eq_ofNat_of_zero_le h0
  simp only [Int.toNat_natCast]
  refine FSpec.drop ?_
  refine spec_body Tryz.func162 rfl rfl Tryz.results162 Tryz.ntmps162 rfl rfl ?_
  refine aw_fact mem0 (fun hl hnc hcc hsome hnone hone => ?_)
  refine aw_fact (mcm _ hv) (fun hvl _ _ _ _ hvone => ?_)
  have hvl : vs.length = 10 := by simpa using hvl
  have hrvG : ∀ c0, Reads W (c0 :: F) (some ⟨gv, 0, none⟩) 1 10 vs := fun c0 => Reads.own (mcm _ hv) (by simpa using hvl) hvone
  have hrv := hrvG (.own A n c 68 10 cs)
  have hmin1 : ∀ m, 0 < m → Nat.min 1 m = 1 := fun m hm => by show min 1 m = 1; omega
  have hrs : Reads W (.own A n c 68 10 cs :: F) A n 10 cs := Reads.own mem0 hl hone
  by_cases hi : i = n
  · subst hi
    have he : ((i : Int) == (i : Int)) = true := by simp
    repeat' (first | apply aw_seq | apply aw_region | apply aw_ret | apply aw_skip | apply es_nil | apply es_pure hT; iterate 4 exact rfl | apply es_sliceFrom hT; (iterate 8 exact rfl); (iterate 3 omega); exact rfl | apply aw_condT; exact rfl; exact he | apply es_append hT; (iterate 10 exact rfl); exact sel0; exact hrv; omega; (show (i + 1) * 80 ≤ _; omega); intro A' c' | apply aw_condF; iterate 2 exact rfl)
    apply ret1; exact rfl
    refine ⟨[], _, List.Perm.refl _, A', c', rfl, ?_⟩
    show Chunk.own A' (i + 1) c' 68 10 (cs ++ vs) :: F = _
    rw [List.take_of_length_le (by omega), List.drop_of_length_le (by omega), List.append_nil]
  · have hlt : i < n := by omega
    have he : ((i : Int) == (n : Int)) = false := by simp; omega
    obtain ⟨g, rfl⟩ := hsome (by omega)
    by_cases hroom : n + 1 ≤ c
    ·
      refine aw_conv (fun w hw => ?_)
      have hnd := hw.nodup
      have hgv : gv ≠ g := by
        intro e
        simp only [List.flatMap_cons, List.nodup_append] at hnd
        exact hnd.2.2 g (by simp [Chunk.keys]) g (List.mem_flatMap.2 ⟨_, hv, by simp [Chunk.keys, e]⟩) rfl
      refine ⟨_, hw, ?_⟩
      refine aw_open sel0 (fun cur hcl htk _ _ _ _ => ?_)
      have hr0 : Reads W (.blk g 68 cur :: F) (some ⟨g, 0, none⟩) n 10 cs := Reads.blk mem0 (by simpa using htk) hl hone
      have hr1 := hr0.cut hnc (show i ≤ n by omega) (Nat.le_refl n)
      rw [List.take_of_length_le (by rw [List.length_drop, hl, Nat.sub_mul]; omega), cutA_ne (by omega)] at hr1
      have hdl : (cs.drop (i * 10)).length = (n - i) * 10 := hr1.len
      have hmin2 : Nat.min (n + 1 - i) (n + 1 - (i + 1)) = n - i := by show min (n + 1 - i) (n + 1 - (i + 1)) = n - i; omega
      have hov := overlapsAskR W (.blk g 68 cur :: F) gv g n c ((i + 1) * 10) (n + 1 - (i + 1)) (c - (i + 1)) vs cur (mcm _ hv) mem0 hgv (by omega)
      refine aw_post (Q' := RetQ Tryz.prog W #[ResultVar.tmp 6].toList (fun v h' => v = .slice (some ⟨g, 0, none⟩) (n + 1) c ∧ h' = .blk g 68 (lay (lay cur (i * 10 + vs.length) (cs.drop (i * 10))) (i * 10) vs) :: F)) (retq_conv ?_) ?_
      · rintro v h' ⟨hv', rfl⟩ w hw
        have hb2 := lay_before (cur := cur) (v := vs) (S := cs.drop (i * 10)) (a := i * 10) (by omega)
        rw [hb2] at hw
        have htk2 : cur.take (i * 10) = cs.take (i * 10) := by rw [← htk, List.take_take, Nat.min_eq_left (by omega)]
        have hone2 : ∀ u ∈ cs.take (i * 10) ++ vs ++ cs.drop (i * 10), u.oneCell' = true := fun u hu => by
          simp only [List.mem_append] at hu
          rcases hu with (hu | hu) | hu
          · exact hone u (List.mem_of_mem_take hu)
          · exact hvone u hu
          · exact hone u (List.mem_of_mem_drop hu)
        have hl2 : (cs.take (i * 10) ++ vs ++ cs.drop (i * 10)).length = (n + 1) * 10 := by simp only [List.length_append, List.length_take, hdl, hvl, hl]; omega
        refine ⟨_, hw.shut_ (n := n + 1) (c := c) (k := 10) ?_ ?_ hl2 hroom hcc hone2, [], _, List.Perm.refl _, some ⟨g, 0, none⟩, c, hv', rfl⟩
        · simp only [List.length_append, List.length_take, List.length_drop, hvl, hcl, hl]; omega
        · rw [htk2, ← hl2, List.take_left]
      · repeat' (first | apply aw_seq | apply aw_region | apply aw_ret | apply aw_skip | apply es_nil | apply es_pure hT; iterate 4 exact rfl | apply es_i64 hT; (iterate 4 exact rfl); (iterate 2 omega) | apply aw_draw [] [] hmix; decide +kernel | (apply es_sliceFrom hT; (iterate 8 exact rfl); (iterate 3 omega); first | exact cutA_ne (by omega) ) | apply es_cap hT; iterate 6 exact rfl | apply es_sliceTo hT; (iterate 8 exact rfl); (iterate 2 omega) | apply aw_condF; exact rfl; exact he | apply es_extern; (iterate 6 exact rfl); exact hov | (apply es_copyB hT (k := 10); (iterate 10 exact rfl); exact sel0; exact rfl; exact (show Reads W (.blk g 68 cur :: F) (some ⟨g, i * 10, none⟩) (Nat.min (n + 1 - i) (n + 1 - (i + 1))) 10 (cs.drop (i * 10)) from (by rw [hmin2]; exact hr1)); (show (i + 1) * 10 + (cs.drop (i * 10)).length ≤ cur.length; omega)) | (apply es_copyB hT (k := 10); (iterate 10 exact rfl); exact sel0; exact rfl; exact (show Reads W _ (some ⟨gv, 0, none⟩) (Nat.min 1 (n + 1 - i)) 10 vs from (by rw [hmin1 _ (by omega)]; exact hrvG _)); (show i * 10 + vs.length ≤ (lay cur ((i + 1) * 10) (cs.drop (i * 10))).length; rw [lay_len (by omega)]; omega)) | apply aw_condT; iterate 2 exact rfl | apply aw_condF; iterate 2 exact rfl | (apply aw_cond; exact rfl; all_goals (intro hb; (try simp only [hb]); (first | replace hb := odt hb | replace hb := odf hb ); (try omega))))
        apply ret1; exact rfl
        refine ⟨rfl, ?_⟩
        show Chunk.blk g 68 (lay (lay cur ((i + 1) * 10) (cs.drop (i * 10))) (i * 10) vs) :: F = _
        rw [hvl, ← Nat.succ_mul]
    ·
      have hz : (ti68.zero.cells.toList).length = 10 := rfl
      have hr1 : ∀ c0, Reads W (c0 :: .own (some ⟨g, 0, none⟩) n c 68 10 cs :: F) (some ⟨g, i * 10, none⟩) (n - i) 10 (cs.drop (i * 10)) := fun c0 => by
        have := (Reads.own (W := W) (h := c0 :: .own (some ⟨g, 0, none⟩) n c 68 10 cs :: F) mem1 hl hone).cut hnc (show i ≤ n by omega) (Nat.le_refl n)
        rw [List.take_of_length_le (by rw [List.length_drop, hl, Nat.sub_mul]; omega), cutA_ne (by omega)] at this
        exact this
      have hdl : (cs.drop (i * 10)).length = (n - i) * 10 := (hr1 (.blk 0 0 [])).len
      have hmin3 : Nat.min (n - i) (i + (n + 1 - i) - (i + 1)) = n - i := by show min (n - i) (i + (n + 1 - i) - (i + 1)) = n - i; omega
      refine aw_post (Q' := RetQ Tryz.prog W #[ResultVar.tmp 6].toList (fun v h' => ∃ (g2 c2 : Nat) (cur : List Value), n + 1 ≤ c2 ∧ c2 ≤ 9223372036854775807 ∧ cur.length = c2 * 10 ∧ cur.take (i * 10) = cs.take (i * 10) ∧ v = .slice (some ⟨g2, 0, none⟩) (n + 1) c2 ∧
        h' = .blk g2 68 (lay (lay cur (i * 10) vs) (i * 10 + vs.length) (cs.drop (i * 10))) :: .own (some ⟨g, 0, none⟩) n c 68 10 cs :: F)) (retq_conv ?_) ?_
      · rintro v h' ⟨g2, c2, cur, k1, k2, k3, k4, hv', rfl⟩ w hw
        have ha2 := lay_after (cur := cur) (v := vs) (S := cs.drop (i * 10)) (a := i * 10) (by omega)
        rw [ha2, k4] at hw
        have hone2 : ∀ u ∈ cs.take (i * 10) ++ vs ++ cs.drop (i * 10), u.oneCell' = true := fun u hu => by
          simp only [List.mem_append] at hu
          rcases hu with (hu | hu) | hu
          · exact hone u (List.mem_of_mem_take hu)
          · exact hvone u hu
          · exact hone u (List.mem_of_mem_drop hu)
        have hl2 : (cs.take (i * 10) ++ vs ++ cs.drop (i * 10)).length = (n + 1) * 10 := by simp only [List.length_append, List.length_take, hdl, hvl, hl]; omega
        refine ⟨_, hw.shut_ (n := n + 1) (c := c2) (k := 10) ?_ ?_ hl2 k1 k2 hone2, [.own (some ⟨g, 0, none⟩) n c 68 10 cs], _, sel1, some ⟨g2, 0, none⟩, c2, hv', rfl⟩
        · simp only [List.length_append, List.length_take, List.length_drop, hvl, k3, hl]; omega
        · rw [← hl2, List.take_left]
      · repeat' (first | apply aw_seq | apply aw_region | apply aw_ret | apply aw_skip | apply es_nil | apply es_pure hT; iterate 4 exact rfl | apply es_i64 hT; (iterate 4 exact rfl); (iterate 2 omega) | apply aw_draw [] [] hmix; decide +kernel | apply es_cap hT; iterate 6 exact rfl | apply es_sliceTo hT; (iterate 8 exact rfl); (iterate 2 omega) | (apply es_sliceFrom hT; (iterate 8 exact rfl); (iterate 3 omega); first | exact cutA_ne (by omega) ) | apply aw_condF; exact rfl; exact he | (apply es_appendZ hT (m := n + 1 - i); (iterate 12 exact rfl); omega; exact hrs.take (show i ≤ n by omega); omega; omega; omega; (show (i + (n + 1 - i)) * 80 ≤ _; omega); intro g2 c2 hc2) | (apply es_copyB hT (k := 10); (iterate 10 exact rfl); exact sel0; exact rfl; exact (show Reads W _ (some ⟨gv, 0, none⟩) (Nat.min 1 (i + (n + 1 - i) - i)) 10 vs from (by rw [hmin1 _ (by omega)]; exact (hrvG _).cons)); (show i * 10 + vs.length ≤ cur.length; omega)) | (apply es_copyB hT (k := 10); (iterate 10 exact rfl); exact sel0; exact rfl; exact (show Reads W _ (some ⟨g, i * 10, none⟩) (Nat.min (n - i) (i + (n + 1 - i) - (i + 1))) 10 (cs.drop (i * 10)) from (by rw [hmin3]; exact hr1 _)); (show (i + 1) * 10 + (cs.drop (i * 10)).length ≤ (lay cur (i * 10) vs).length; rw [lay_len (by omega)]; omega)) | apply es_open rfl sel0; intro cur hcl htk hc3 hc4; replace hcl : cur.length = c2 * 10 := hcl | apply aw_condF; iterate 2 exact rfl | (apply aw_cond; exact rfl; all_goals (intro hb; (try simp only [hb]); (first | replace hb := odt hb | replace hb := odf hb ); (try omega))))
        apply ret1; exact rfl
        refine ⟨g2, c2, cur, by omega, hc4, hcl, ?_, by show Value.slice (some ⟨g2, 0, none⟩) (i + (n + 1 - i)) c2 = _; rw [show i + (n + 1 - i) = n + 1 by omega], ?_⟩
        · have e1 : cur.take ((i + (n + 1 - i)) * 10) = cs.take (i * 10) ++ repZ ti68.zero.cells.toList (n + 1 - i) := htk
          have e2 := congrArg (List.take (i * 10)) e1
          rw [List.take_take, Nat.min_eq_left (by omega), List.take_append_of_le_length (by rw [List.length_take]; omega), List.take_take, Nat.min_self] at e2
          exact e2
        · show Chunk.blk g2 68 (lay (lay cur (i * 10) vs) ((i + 1) * 10) (cs.drop (i * 10))) :: _ = _
          rw [hvl, ← Nat.succ_mul]
end Go.Proofs.YtakilgkpfjhfdaaGreat

namespace Go.Proofs.YtakilgkpfjhfdaaGreat
open Go Go.Sl
attribute [local irreducible] AW ES EP Ld RetQ
set_option maxRecDepth 100000
def askTab (p : Nat) (A : Option Addr) (c : Nat) (l : List AskR) (F : List Chunk) : List Chunk :=
  .blk p 131 [.slice A l.length c] :: .own A l.length c 68 10 (l.flatMap AskR.enc) :: F
def cA (id : Int) (q : AskR) : Int := cmpI q.id id
def upA (l : List AskR) : Prop := l.Pairwise fun a b => a.id < b.id
theorem cA_neg {id : Int} {q : AskR} : cA id q < 0 ↔ q.id < id := by unfold cA cmpI; split <;> (try split) <;> omega
theorem upA_mono {l : List AskR} (h : upA l) (id : Int) : ∀ (i j : Nat) x y, i ≤ j → l[i]? = some x → l[j]? = some y → cA id y < 0 → cA id x < 0 := by
  intro i j x y hij hx hy hd
  rw [cA_neg] at *
  rcases Nat.lt_or_ge i j with hlt | hge
  · obtain ⟨hi, rfl⟩ := List.getElem?_eq_some_iff.1 hx
    obtain ⟨hj, rfl⟩ := List.getElem?_eq_some_iff.1 hy
    have := List.pairwise_iff_getElem.1 h i j hi hj hlt
    omega
  · obtain rfl : i = j := by omega
    rw [hx] at hy; cases hy; exact hd
theorem ask_find1 (W : World) (q : AskR) (id : Int) : QSpec Tryz.prog W 136 [.agg q.enc.toArray, .int .i64 id] [] (.int .i64 (cA id q)) := by
  refine QSpec.ofD (fun h' hs => ?_)
  refine spec_body Tryz.func136 rfl rfl Tryz.results136 Tryz.ntmps136 rfl rfl ?_
  repeat' (first | apply aw_seq | apply aw_region | apply aw_ret | apply es_nil | apply es_pure hT; iterate 4 exact rfl | (apply es_callQ (hs := ((cmp64 W _ _).mono (by simp))); iterate 7 exact rfl) | (apply es_load; (iterate 5 exact rfl); first | exact ld_blk hT rfl rfl mem0 rfl rfl ) | apply es_box; (iterate 5 exact rfl); intro _)
  apply ret1; exact rfl
  exact ⟨rfl, dt_skip dt_end⟩
def findA (id : Int) (l : List AskR) : Value := .tuple #[.int .i64 (bsN (cA id) l), .bool (bsB (cA id) l)]
theorem ask_find (W : World) (p : Nat) (A : Option Addr) (c : Nat) (l : List AskR) (id : Int) (hb : l.length ≤ 1000000) (hup : upA l) :
    QSpec Tryz.prog W 80 [.pointer (some ⟨p, 0, none⟩), .int .i64 id] (askTab p A c l []) (findA id l) := by
  refine QSpec.ofD (fun h' hs => ?_)
  have m1 := hs _ mem0
  have m2 := hs _ mem1
  refine spec_body Tryz.func80 rfl rfl Tryz.results80 Tryz.ntmps80 rfl rfl ?_
  refine aw_fact m2 (fun hl hnc hcc hsome hnone hone => ?_)
  have hr := Reads.own (W := W) m2 hl hone
  have hq : QSpec Tryz.prog W 135 [.slice A l.length c, .int .i64 id, .func (.func 136) #[] #[]] h' (.tuple #[.int .i64 (bsN (cA id) l), .bool (bsB (cA id) l)]) :=
    bsearchAskR W _ A _ c l rfl hr _ ⟨id, rfl⟩ _ [] (cA id) (fun x _ => (ask_find1 W x id).mono (by simp)) (upA_mono hup id) (by omega)
  repeat' (first | apply aw_seq | apply aw_region | apply aw_ret | apply aw_skip | apply es_nil | apply es_pure hT; iterate 4 exact rfl | apply es_callQ (hs := hq); iterate 7 exact rfl | (apply es_load; (iterate 5 exact rfl); first | exact ld_blk hT rfl rfl m1 rfl rfl ) | apply aw_condF; iterate 2 exact rfl)
  apply ret2; exact rfl; exact rfl
  exact ⟨rfl, dt_end⟩
end Go.Proofs.YtakilgkpfjhfdaaGreat

namespace Go.Proofs.YtakilgkpfjhfdaaGreat
open Go Go.Sl
attribute [local irreducible] AW ES EP Ld RetQ
set_option maxRecDepth 100000
theorem askSide_Is (W : World) (s : Int) : QSpec Tryz.prog W 114 [.int .i64 s] [] (.bool (s == 1 || s == 2)) := by
  refine QSpec.ofD (fun h' hs => ?_)
  refine spec_body Tryz.func114 rfl rfl Tryz.results114 Tryz.ntmps114 rfl rfl ?_
  repeat' (first | apply aw_seq | apply aw_region | apply aw_ret | apply es_nil | apply es_pure hT; iterate 4 exact rfl | apply es_skip; iterate 3 exact rfl | (apply es_case; exact rfl; all_goals (intro hb; (try simp only [hb]); (first | replace hb := odt hb | replace hb := odf hb ); (try omega))))
  all_goals
    apply ret1; exact rfl
    refine ⟨?_, dt_end⟩
    simp [*]
def newA (a : AskR) : Bool := decide (a.id ≥ 1) && decide (a.qty ≥ 1) && decide (a.client ≥ 0) && decide (a.bond ≥ 0) && (a.side == 1 || a.side == 2) && a.dealers != 0 && a.state == 1 && a.hit == 0 && a.until_ == 0
theorem ask_isNew (W : World) (a : AskR) : QSpec Tryz.prog W 160 [.agg a.enc.toArray] [] (.bool (newA a)) := by
  refine QSpec.ofD (fun h' hs => ?_)
  refine spec_body Tryz.func160 rfl rfl Tryz.results160 Tryz.ntmps160 rfl rfl ?_
  repeat' (first | apply aw_seq | apply aw_region | apply aw_ret | apply es_nil | apply es_pure hT; iterate 4 exact rfl | apply es_skip; iterate 3 exact rfl | (apply es_callQ (hs := ((askSide_Is W _).mono (by simp))); iterate 7 exact rfl) | (apply es_load; (iterate 5 exact rfl); first | exact ld_blk hT rfl rfl mem0 rfl rfl ) | apply es_box; (iterate 5 exact rfl); intro _ | (apply es_case; exact rfl; all_goals (intro hb; (try simp only [hb]); (first | replace hb := odt hb | replace hb := odf hb | replace hb := bne_t hb | replace hb := bne_f hb | skip); (try omega))))
  all_goals
    apply ret1; exact rfl
    refine ⟨?_, dt_skip dt_end⟩
    simp [newA, *]
def ofA (A : Option Addr) (id : Int) (l : List AskR) : Value := if bsB (cA id) l then .tuple #[.pointer (some (adr A (bsN (cA id) l * 10))), .int .i64 0] else .tuple #[.pointer none, .int .i64 4]
theorem ask_of (W : World) (p : Nat) (A : Option Addr) (c : Nat) (l : List AskR) (id : Int) (hb : l.length ≤ 1000000) (hup : upA l) :
    QSpec Tryz.prog W 137 [.pointer (some ⟨p, 0, none⟩), .int .i64 id] (askTab p A c l []) (ofA A id l) := by
  refine QSpec.ofD (fun h' hs => ?_)
  have m1 := hs _ mem0
  have m2 := hs _ mem1
  refine spec_body Tryz.func137 rfl rfl Tryz.results137 Tryz.ntmps137 rfl rfl ?_
  refine aw_fact m2 (fun hl hnc hcc hsome hnone hone => ?_)
  have hfind := (ask_find W p A c l id hb hup).mono (h' := h') hs
  unfold findA at hfind
  cases hB : bsB (cA id) l
  · rw [hB] at hfind
    repeat' (first | apply aw_seq | apply aw_region | apply aw_ret | apply es_nil | apply es_pure hT; iterate 4 exact rfl | apply es_callQ (hs := hfind); iterate 7 exact rfl | apply aw_condT; iterate 2 exact rfl)
    apply ret2; exact rfl; exact rfl
    exact ⟨by simp [ofA, hB], dt_end⟩
  · rw [hB] at hfind
    have hlt : bsN (cA id) l < l.length := by
      unfold bsB at hB
      split at hB
      · rename_i x hx; exact (List.getElem?_eq_some_iff.1 hx).1
      · cases hB
    obtain ⟨g, hA⟩ := hsome (by omega)
    have hA2 : A.isSome = true := by rw [hA]; rfl
    repeat' (first | apply aw_seq | apply aw_region | apply aw_ret | apply aw_skip | apply es_nil | apply es_pure hT; iterate 4 exact rfl | apply es_callQ (hs := hfind); iterate 7 exact rfl | apply es_idx hT; (iterate 8 exact rfl); (iterate 2 omega); exact hA2 | (apply es_load; (iterate 5 exact rfl); first | exact ld_blk hT rfl rfl m1 rfl rfl ) | apply aw_condF; iterate 2 exact rfl)
    apply ret2; exact rfl; exact rfl
    refine ⟨?_, dt_end⟩
    rw [ofA, if_pos hB]
    rfl
theorem ask_All (W : World) (h : List Chunk) (p : Nat) (A : Option Addr) (c : Nat) (l : List AskR) (m1 : Chunk.blk p 131 [.slice A l.length c] ∈ h) (hr : Reads W h A l.length 10 (l.flatMap AskR.enc)) (hb : l.length ≤ 1000000) :
    FSpec Tryz.prog W 55 [.pointer (some ⟨p, 0, none⟩)] h (fun v h' => ∃ A' c', v = .slice A' l.length c' ∧ h' = .own A' l.length c' 68 10 (l.flatMap AskR.enc) :: h ∧ OwnF A' l.length c' 10 (l.flatMap AskR.enc)) := by
  refine FSpec.dropF ?_
  refine spec_body Tryz.func55 rfl rfl Tryz.results55 Tryz.ntmps55 rfl rfl ?_
  have hcl := cloneAskR W h A l.length c (l.flatMap AskR.enc) hr (by omega)
  repeat' (first | apply aw_seq | apply aw_region | apply aw_ret | apply aw_skip | apply es_nil | apply es_pure hT; iterate 4 exact rfl | apply es_call (hs := hcl); (iterate 7 exact rfl); rintro _ _ ⟨A', c', rfl, rfl⟩ | (apply es_load; (iterate 5 exact rfl); first | exact ld_blk hT rfl rfl m1 rfl rfl ) | apply aw_condF; iterate 2 exact rfl)
  apply ret1; exact rfl
  exact ⟨_, dt_end, fun w hw => ⟨A', c', rfl, rfl, hw.ownF mem0⟩⟩
def onA (a : AskR) : Bool := a.state == 1 || a.state == 2
def manyA (l : List AskR) : Nat := (l.filter onA).length
theorem ask_Many (W : World) (p : Nat) (A : Option Addr) (c : Nat) (l : List AskR) (hb : l.length ≤ 1000000) :
    QSpec Tryz.prog W 161 [.pointer (some ⟨p, 0, none⟩)] (askTab p A c l []) (.int .i64 (manyA l)) := by
  refine QSpec.ofD (fun h' hs => ?_)
  have m1 := hs _ mem0
  have m2 := hs _ mem1
  refine spec_body Tryz.func161 rfl rfl Tryz.results161 Tryz.ntmps161 rfl rfl ?_
  refine aw_fact m2 (fun hl hnc hcc hsome hnone hone => ?_)
  have hall := ask_All W h' p A c l m1 (Reads.own m2 hl hone) hb
  repeat' (first | apply aw_seq | apply aw_region | apply aw_block | apply es_nil | apply es_pure hT; iterate 4 exact rfl | apply es_call (hs := hall); (iterate 7 exact rfl); rintro _ _ ⟨AO, cO, rfl, rfl, hf⟩)
  have hml : ∀ k, manyA (l.take k) ≤ k := fun k => by
    have := List.length_filter_le onA (l.take k); simp at this; unfold manyA; omega
  refine aw_loop (α := Nat × Int) (E := fun x => [(3, .int .i64 x.2), (7, .slice AO l.length cO), (8, .int .i64 l.length), (9, .int .i64 x.1)]) (H := fun _ => .own AO l.length cO 68 10 (l.flatMap AskR.enc) :: h') (μ := fun x => l.length - x.1)
    (S := fun x => x.1 ≤ l.length ∧ x.2 = (manyA (l.take x.1) : Nat)) (0, 0) (J := []) ⟨Nat.zero_le _, rfl⟩ ⟨rfl, rfl, rfl, rfl, trivial⟩ (List.Perm.refl _) ?_
  rintro ⟨k, n⟩ ⟨hk, hn⟩
  dsimp only at hk hn ⊢
  have hmk := hml k
  by_cases hlt : k < l.length
  · obtain ⟨x, hx⟩ : ∃ x, l[k]? = some x := ⟨l[k]'(by omega), List.getElem?_eq_getElem (by omega)⟩
    have hx2 : l[(k : Int).toNat]? = some x := by simpa using hx
    have hA := hf.some_ (by omega)
    have hd1 : decide ((k : Int) < (l.length : Int)) = true := by simp; omega
    have hstep : ((manyA (l.take (k + 1)) : Nat) : Int) = if onA x then n + 1 else n := by
      unfold manyA at hn ⊢
      rw [List.take_add_one, hx, List.filter_append, hn]
      cases hh : onA x <;> simp [hh]
    repeat' (first | apply aw_seq | apply aw_region | apply aw_skip | apply aw_block | apply es_nil | apply es_pure hT; iterate 4 exact rfl | apply es_skip; iterate 3 exact rfl | apply es_i64 hT; (iterate 4 exact rfl); (iterate 2 omega) | apply es_idx hT; (iterate 8 exact rfl); (iterate 2 omega); exact hA | apply es_load; (iterate 5 exact rfl); exact ld_elem hT rfl rfl (hf.reads mem0) AskR.enc_len rfl hx2 rfl | apply es_alloc hT; (iterate 5 exact rfl); intro g7 | apply es_store hT; (iterate 6 exact rfl); exact sel0; (iterate 3 exact rfl); exact nle rfl | (apply es_load; (iterate 5 exact rfl); first | exact ld_blk hT rfl rfl mem0 rfl rfl ) | apply aw_condT; iterate 2 exact rfl | (apply es_case; exact rfl; all_goals (intro hb; (try simp only [hb]); (first | replace hb := odt hb | replace hb := odf hb ); (try omega))) | (apply aw_cond; exact rfl; all_goals (intro hb; (try simp only [hb]); (first | replace hb := odt hb | replace hb := odf hb ); (try omega))))
    all_goals first
      | exact loopq_end (k + 1, n + 1) (by dsimp only; omega) ⟨by dsimp only; omega, by dsimp only; rw [hstep, if_pos (by simp [onA, *])]⟩ ⟨rfl, rfl, rfl, rfl, trivial⟩ (dt_skip dt_end)
      | exact loopq_end (k + 1, n) (by dsimp only; omega) ⟨by dsimp only; omega, by dsimp only; rw [hstep, if_neg (by simp [onA, *])]⟩ ⟨rfl, rfl, rfl, rfl, trivial⟩ (dt_skip dt_end)
  · obtain rfl : k = l.length := by omega
    have hd1 : decide ((l.length : Int) < (l.length : Int)) = false := by simp
    rw [List.take_length] at hn
    subst hn
    repeat' (first | apply aw_seq | apply aw_region | apply aw_ret | apply aw_exit | apply es_nil | apply es_pure hT; iterate 4 exact rfl | (apply aw_cond; exact rfl; all_goals (intro hb; (try simp only [hb]); (first | replace hb := odt hb | replace hb := odf hb ); (try omega))))
    apply ret1; exact rfl
    exact ⟨rfl, dt_skip dt_end⟩
end Go.Proofs.YtakilgkpfjhfdaaGreat

namespace Go.Proofs.YtakilgkpfjhfdaaGreat
open Go Go.Sl
attribute [local irreducible] AW ES EP Ld RetQ
set_option maxRecDepth 100000
def addE (a : AskR) (l : List AskR) : Int := if bsB (cA a.id) l then 1 else if newA a then (if manyA l ≥ 32 then 3 else 0) else 1
def addA (a : AskR) (l : List AskR) : List AskR := if addE a l = 0 then l.take (bsN (cA a.id) l) ++ [a] ++ l.drop (bsN (cA a.id) l) else l
theorem ask_Add (W : World) (F : List Chunk) (p : Nat) (A : Option Addr) (c : Nat) (l : List AskR) (a : AskR) (hb : l.length ≤ 1000000) (hup : upA l) :
    FSpec Tryz.prog W 117 [.pointer (some ⟨p, 0, none⟩), .agg a.enc.toArray] (askTab p A c l F) (fun v h' => v = .int .i64 (addE a l) ∧ ∃ A' c', h' = askTab p A' c' (addA a l) F) := by
  refine FSpec.dropTo ?_
  refine spec_body Tryz.func117 rfl rfl Tryz.results117 Tryz.ntmps117 rfl rfl ?_
  have hfind : ∀ g, QSpec Tryz.prog W 80 [.pointer (some ⟨p, 0, none⟩), .int .i64 a.id] (.blk g 68 a.enc :: askTab p A c l F) (findA a.id l) := fun g => (ask_find W p A c l a.id hb hup).mono (by intro c hc; simp only [askTab, List.mem_cons, List.not_mem_nil, or_false] at hc ⊢; rcases hc with rfl | rfl <;> simp)
  unfold findA at hfind
  have hmany : ∀ g, QSpec Tryz.prog W 161 [.pointer (some ⟨p, 0, none⟩)] (.blk g 68 a.enc :: askTab p A c l F) (.int .i64 (manyA l)) := fun g => (ask_Many W p A c l hb).mono (by intro c hc; simp only [askTab, List.mem_cons, List.not_mem_nil, or_false] at hc ⊢; rcases hc with rfl | rfl <;> simp)
  have hnew : ∀ g, QSpec Tryz.prog W 160 [.agg a.enc.toArray] (.blk g 68 a.enc :: askTab p A c l F) (.bool (newA a)) := fun g => (ask_isNew W a).mono (by simp)
  cases hB : bsB (cA a.id) l
  · rw [hB] at hfind
    cases hN : newA a
    · rw [hN] at hnew
      repeat' (first | apply aw_seq | apply aw_region | apply aw_ret | apply es_nil | apply es_pure hT; iterate 4 exact rfl | apply es_callQ (hs := (hfind _)); iterate 7 exact rfl | apply es_callQ (hs := (hnew _)); iterate 7 exact rfl | (apply es_load; (iterate 5 exact rfl); first | exact ld_blk hT rfl rfl mem0 rfl rfl | exact ld_all hT rfl rfl mem0 rfl) | apply es_box; (iterate 5 exact rfl); intro _ | apply aw_condT; iterate 2 exact rfl)
      apply ret1; exact rfl
      exact ⟨askTab p A c l F, dt_skip dt_end, by simp [addE, hB, hN], A, c, by simp [addA, addE, hB, hN]⟩
    · rw [hN] at hnew
      by_cases hM : manyA l ≥ 32
      · have hd : decide (((manyA l : Nat) : Int) ≥ 32) = true := by simp; omega
        repeat' (first | apply aw_seq | apply aw_region | apply aw_ret | apply aw_skip | apply es_nil | apply es_pure hT; iterate 4 exact rfl | apply es_callQ (hs := (hfind _)); iterate 7 exact rfl | apply es_callQ (hs := (hnew _)); iterate 7 exact rfl | apply es_callQ (hs := (hmany _)); iterate 7 exact rfl | (apply es_load; (iterate 5 exact rfl); first | exact ld_blk hT rfl rfl mem0 rfl rfl | exact ld_all hT rfl rfl mem0 rfl) | apply es_box; (iterate 5 exact rfl); intro _ | apply aw_condF; iterate 2 exact rfl | (apply aw_cond; exact rfl; all_goals (intro hb; (try simp only [hb]); (first | replace hb := odt hb | replace hb := odf hb ); (try omega))))
        apply ret1; exact rfl
        exact ⟨askTab p A c l F, dt_skip dt_end, by simp [addE, hB, hN, hM], A, c, by simp [addA, addE, hB, hN, hM]⟩
      · have hd : decide (((manyA l : Nat) : Int) ≥ 32) = false := by simp; omega
        have hE : addE a l = 0 := by simp [addE, hB, hN, hM]
        have hle := bsN_le (c := cA a.id) (l := l)
        have hpa : addA a l = l.take (bsN (cA a.id) l) ++ [a] ++ l.drop (bsN (cA a.id) l) := by simp [addA, hE]
        have hplen : (addA a l).length = l.length + 1 := by rw [hpa]; simp; omega
        have hc : (l.flatMap AskR.enc).take ((bsN (cA a.id) l) * 10) ++ a.enc ++ (l.flatMap AskR.enc).drop ((bsN (cA a.id) l) * 10) = (addA a l).flatMap AskR.enc := by
          rw [flat_take AskR.enc_len, flat_drop AskR.enc_len, hpa]; simp
        have hins : ∀ g3 gv, FSpec Tryz.prog W 162 [.slice A l.length c, .int .i64 (bsN (cA a.id) l), .slice (some ⟨gv, 0, none⟩) 1 1] (.own (some ⟨gv, 0, none⟩) 1 1 68 10 a.enc :: .blk g3 68 a.enc :: askTab p A c l F) _ := fun g3 gv =>
          (insertAskR W (.own (some ⟨gv, 0, none⟩) 1 1 68 10 a.enc :: .blk g3 68 a.enc :: .blk p 131 [.slice A l.length c] :: F) A l.length c (bsN (cA a.id) l) (l.flatMap AskR.enc) gv a.enc mem0 (by omega) (by omega) (by omega)).perm (selS (selS (selS sel0)))
        repeat' (first | apply aw_seq | apply aw_region | apply aw_ret | apply aw_skip | apply es_nil | apply es_pure hT; iterate 4 exact rfl | apply aw_draw [] [] hmix; decide +kernel | apply es_callQ (hs := (hfind _)); iterate 7 exact rfl | apply es_callQ (hs := (hnew _)); iterate 7 exact rfl | apply es_callQ (hs := (hmany _)); iterate 7 exact rfl | apply es_buildSlice hT; (iterate 12 exact rfl); intro gv | apply es_call (hs := (hins _ _)); (iterate 7 exact rfl); rintro _ _ ⟨A', c', rfl, rfl⟩ | (apply es_store hT; (iterate 6 exact rfl); (first | exact selS (selS sel1) ); (iterate 3 exact rfl); exact nle rfl) | (apply es_load; (iterate 5 exact rfl); first | exact ld_blk hT rfl rfl mem0 rfl rfl | exact ld_all hT rfl rfl mem0 rfl) | (apply es_load; (iterate 5 exact rfl); first | exact ld_blk hT rfl rfl mem1 rfl rfl ) | apply es_box; (iterate 5 exact rfl); intro _ | apply aw_condF; iterate 2 exact rfl | (apply aw_cond; exact rfl; all_goals (intro hb; (try simp only [hb]); (first | replace hb := odt hb | replace hb := odf hb ); (try omega))))
        apply ret1; exact rfl
        refine ⟨askTab p A' c' (addA a l) F, ?_, by rw [hE], A', c', rfl⟩
        rw [askTab, hplen, ← hc]
        apply dt_cons; (first | exact sel0)
        apply dt_cons; (first | exact sel0)
        (repeat (first | exact dt_end | apply dt_skip))
  · rw [hB] at hfind
    repeat' (first | apply aw_seq | apply aw_region | apply aw_ret | apply es_nil | apply es_pure hT; iterate 4 exact rfl | apply es_skip; iterate 3 exact rfl | apply es_callQ (hs := (hfind _)); iterate 7 exact rfl | (apply es_load; (iterate 5 exact rfl); first | exact ld_blk hT rfl rfl mem0 rfl rfl ) | apply es_box; (iterate 5 exact rfl); intro _ | apply aw_condT; iterate 2 exact rfl)
    apply ret1; exact rfl
    exact ⟨askTab p A c l F, dt_skip dt_end, by simp [addE, hB], A, c, by simp [addA, addE, hB]⟩
end Go.Proofs.YtakilgkpfjhfdaaGreat

namespace Go.Proofs.YtakilgkpfjhfdaaGreat
open Go Go.Sl
attribute [local irreducible] AW ES EP Ld RetQ
set_option maxRecDepth 100000
def getA (id : Int) (l : List AskR) : Option AskR := if bsB (cA id) l then l[bsN (cA id) l]? else none
theorem getA_some {id : Int} {l : List AskR} (h : bsB (cA id) l = true) : ∃ x, l[bsN (cA id) l]? = some x ∧ x.id = id ∧ getA id l = some x := by
  unfold bsB at h
  split at h
  · rename_i x hx
    refine ⟨x, hx, ?_, ?_⟩
    · have : cA id x = 0 := by simpa using h
      unfold cA cmpI at this; split at this <;> (try split at this) <;> omega
    · unfold getA bsB; rw [hx]; simp only at h ⊢; rw [if_pos h]
  · cases h
theorem getA_none {id : Int} {l : List AskR} (h : bsB (cA id) l = false) : getA id l = none := by unfold getA; rw [h]; rfl
def setA (id : Int) (x : AskR) (l : List AskR) : List AskR := l.set (bsN (cA id) l) x
def lookE (id quote until_ : Int) (l : List AskR) : Int := match getA id l with
  | none => 4
  | some x => if x.state = 1 then (if quote < 1 ∨ until_ < 1 then 1 else 0) else 11
def lookA (id quote until_ : Int) (l : List AskR) : List AskR := match getA id l with
  | none => l
  | some x => if lookE id quote until_ l = 0 then setA id { x with state := 2, hit := quote, until_ := until_ } l else l
theorem ask_Look (W : World) (F : List Chunk) (p : Nat) (A : Option Addr) (c : Nat) (l : List AskR) (id quote until_ : Int) (hb : l.length ≤ 1000000) (hup : upA l) :
    FSpec Tryz.prog W 152 [.pointer (some ⟨p, 0, none⟩), .int .i64 id, .int .i64 quote, .int .i64 until_] (askTab p A c l F) (fun v h' => v = .int .i64 (lookE id quote until_ l) ∧ h' = askTab p A c (lookA id quote until_ l) F) := by
  refine FSpec.dropTo ?_
  refine spec_body Tryz.func152 rfl rfl Tryz.results152 Tryz.ntmps152 rfl rfl ?_
  refine aw_fact (h := askTab p A c l F) mem1 (fun hl hnc hcc hsome hnone hone => ?_)
  have hr : Reads W (askTab p A c l F) A l.length 10 (l.flatMap AskR.enc) := Reads.own mem1 hl hone
  have hof := (ask_of W p A c l id hb hup).mono (h' := askTab p A c l F) (by intro c hc; simp only [askTab, List.mem_cons, List.not_mem_nil, or_false] at hc ⊢; rcases hc with rfl | rfl <;> simp)
  unfold ofA at hof
  cases hB : bsB (cA id) l
  · rw [hB] at hof
    repeat' (first | apply aw_seq | apply aw_region | apply aw_ret | apply aw_block | apply es_nil | apply es_pure hT; iterate 4 exact rfl | apply es_callQ (hs := hof); iterate 7 exact rfl | apply aw_condT; iterate 2 exact rfl)
    apply ret1; exact rfl
    exact ⟨_, dt_end, by simp [lookE, getA_none hB], by simp [lookA, getA_none hB]⟩
  · obtain ⟨x, hx, _, hg⟩ := getA_some hB
    rw [hB] at hof
    have hlt := (List.getElem?_eq_some_iff.1 hx).1
    by_cases hs : x.state = 1
    · have hs1 : (x.state != 1) = false := by simpa using hs
      by_cases hq : quote < 1 ∨ until_ < 1
      · have hE : lookE id quote until_ l = 1 := by simp [lookE, hg, hs, hq]
        repeat' (first | apply aw_seq | apply aw_region | apply aw_ret | apply aw_block | apply es_nil | apply es_pure hT; iterate 4 exact rfl | apply es_skip; iterate 3 exact rfl | apply es_callQ (hs := hof); iterate 7 exact rfl | (apply es_load; (iterate 5 exact rfl); exact ld_fld hT rfl rfl hr AskR.enc_len (adr_add _ _ _) hx (by decide) rfl) | apply aw_condT; iterate 2 exact rfl | apply aw_condF; iterate 2 exact rfl | (apply es_case; exact rfl; all_goals (intro hb; (try simp only [hb]); (first | replace hb := odt hb | replace hb := odf hb ); (try omega))) | (apply aw_cond; exact rfl; all_goals (intro hb; (try simp only [hb]); (first | replace hb := odt hb | replace hb := odf hb | replace hb := bne_t hb | replace hb := bne_f hb ); (try omega))))
        all_goals first
          | (apply ret1; exact rfl; exact ⟨_, dt_end, by rw [hE], by simp [lookA, hg, hE]⟩)
          | (exfalso; omega)
      · have hE : lookE id quote until_ l = 0 := by simp [lookE, hg, hs, hq]
        have q1 : decide (quote < 1) = false := by simp; omega
        have q2 : decide (until_ < 1) = false := by simp; omega
        have hlay : lay (lay (lay (l.flatMap AskR.enc) (bsN (cA id) l * 10 + 8) [.int .i64 2]) (bsN (cA id) l * 10 + 9) [.int .i64 quote]) (bsN (cA id) l * 10 + 7) [.int .i64 until_] = (setA id { x with state := 2, hit := quote, until_ := until_ } l).flatMap AskR.enc := by
          rw [flat_lay AskR.enc_len (x' := { x with state := 2 }) hx (Nat.le_of_ble_eq_true rfl) rfl,
            flat_lay AskR.enc_len (x' := { x with state := 2, hit := quote }) (List.getElem?_set_self hlt) (Nat.le_of_ble_eq_true rfl) rfl,
            flat_lay AskR.enc_len (x' := { x with state := 2, hit := quote, until_ := until_ }) (List.getElem?_set_self (by simpa using hlt)) (Nat.le_of_ble_eq_true rfl) rfl, List.set_set, List.set_set, setA]
        repeat' (first | apply aw_seq | apply aw_region | apply aw_ret | apply aw_skip | apply aw_block | apply es_nil | apply es_pure hT; iterate 4 exact rfl | apply es_callQ (hs := hof); iterate 7 exact rfl | (apply es_load; (iterate 5 exact rfl); exact ld_fld hT rfl rfl hr AskR.enc_len (adr_add _ _ _) hx (by decide) rfl) | (apply es_storeRow hT; (iterate 6 exact rfl); (first | exact sel0 | exact sel1 ); exact adr_add _ _ _; exact rfl; exact rfl; (first | show (bsN (cA id) l * 10 + 8) + 1 ≤ l.length * 10; omega | show (bsN (cA id) l * 10 + 9) + 1 ≤ l.length * 10; omega | show (bsN (cA id) l * 10 + 7) + 1 ≤ l.length * 10; omega); omega) | (apply aw_condF; iterate 2 exact rfl) | (apply es_case; exact rfl; all_goals (intro hb; (try simp only [hb]); (first | replace hb := odt hb | replace hb := odf hb ); (try omega))) | (apply aw_cond; exact rfl; all_goals (intro hb; (try simp only [hb]); (first | replace hb := odt hb | replace hb := odf hb | replace hb := bne_t hb | replace hb := bne_f hb ); (try omega))))
        apply ret1; exact rfl
        refine ⟨askTab p A c (lookA id quote until_ l) F, ?_, by rw [hE], rfl⟩
        have hll : lookA id quote until_ l = setA id { x with state := 2, hit := quote, until_ := until_ } l := by simp [lookA, hg, hE]
        rw [hll, askTab, ← hlay, show (setA id { x with state := 2, hit := quote, until_ := until_ } l).length = l.length by simp [setA]]
        apply dt_cons; (first | exact sel1)
        apply dt_cons; (first | exact sel0)
        (repeat (first | exact dt_end))
    · have hs1 : (x.state != 1) = true := by simpa using hs
      repeat' (first | apply aw_seq | apply aw_region | apply aw_ret | apply aw_block | apply es_nil | apply es_pure hT; iterate 4 exact rfl | apply es_callQ (hs := hof); iterate 7 exact rfl | (apply es_load; (iterate 5 exact rfl); exact ld_fld hT rfl rfl hr AskR.enc_len (adr_add _ _ _) hx (by decide) rfl) | apply aw_condF; iterate 2 exact rfl | (apply aw_cond; exact rfl; all_goals (intro hb; (try simp only [hb]); (first | replace hb := bne_t hb | replace hb := bne_f hb ); (try omega))))
      apply ret1; exact rfl
      exact ⟨_, dt_end, by simp [lookE, hg, hs], by simp [lookA, lookE, hg, hs]⟩
def backE (id : Int) (l : List AskR) : Int := match getA id l with
  | none => 4
  | some x => if x.state = 2 then 0 else 11
def backA (id : Int) (l : List AskR) : List AskR := match getA id l with
  | none => l
  | some x => if backE id l = 0 then setA id { x with state := 1, hit := 0, until_ := 0 } l else l
theorem ask_Back (W : World) (F : List Chunk) (p : Nat) (A : Option Addr) (c : Nat) (l : List AskR) (id : Int) (hb : l.length ≤ 1000000) (hup : upA l) :
    FSpec Tryz.prog W 81 [.pointer (some ⟨p, 0, none⟩), .int .i64 id] (askTab p A c l F) (fun v h' => v = .int .i64 (backE id l) ∧ h' = askTab p A c (backA id l) F) := by
  refine FSpec.dropTo ?_
  refine spec_body Tryz.func81 rfl rfl Tryz.results81 Tryz.ntmps81 rfl rfl ?_
  refine aw_fact (h := askTab p A c l F) mem1 (fun hl hnc hcc hsome hnone hone => ?_)
  have hr : Reads W (askTab p A c l F) A l.length 10 (l.flatMap AskR.enc) := Reads.own mem1 hl hone
  have hof := (ask_of W p A c l id hb hup).mono (h' := askTab p A c l F) (by intro c hc; simp only [askTab, List.mem_cons, List.not_mem_nil, or_false] at hc ⊢; rcases hc with rfl | rfl <;> simp)
  unfold ofA at hof
  cases hB : bsB (cA id) l
  · rw [hB] at hof
    repeat' (first | apply aw_seq | apply aw_region | apply aw_ret | apply aw_block | apply es_nil | apply es_pure hT; iterate 4 exact rfl | apply es_callQ (hs := hof); iterate 7 exact rfl | apply aw_condT; iterate 2 exact rfl)
    apply ret1; exact rfl
    exact ⟨_, dt_end, by simp [backE, getA_none hB], by simp [backA, getA_none hB]⟩
  · obtain ⟨x, hx, _, hg⟩ := getA_some hB
    rw [hB] at hof
    have hlt := (List.getElem?_eq_some_iff.1 hx).1
    by_cases hs : x.state = 2
    · have hs1 : (x.state != 2) = false := by simpa using hs
      have hE : backE id l = 0 := by simp [backE, hg, hs]
      have hlay : lay (lay (lay (l.flatMap AskR.enc) (bsN (cA id) l * 10 + 8) [.int .i64 1]) (bsN (cA id) l * 10 + 9) [.int .i64 0]) (bsN (cA id) l * 10 + 7) [.int .i64 0] = (setA id { x with state := 1, hit := 0, until_ := 0 } l).flatMap AskR.enc := by
        rw [flat_lay AskR.enc_len (x' := { x with state := 1 }) hx (Nat.le_of_ble_eq_true rfl) rfl,
          flat_lay AskR.enc_len (x' := { x with state := 1, hit := 0 }) (List.getElem?_set_self hlt) (Nat.le_of_ble_eq_true rfl) rfl,
          flat_lay AskR.enc_len (x' := { x with state := 1, hit := 0, until_ := 0 }) (List.getElem?_set_self (by simpa using hlt)) (Nat.le_of_ble_eq_true rfl) rfl, List.set_set, List.set_set, setA]
      repeat' (first | apply aw_seq | apply aw_region | apply aw_ret | apply aw_skip | apply aw_block | apply es_nil | apply es_pure hT; iterate 4 exact rfl | apply es_callQ (hs := hof); iterate 7 exact rfl | (apply es_load; (iterate 5 exact rfl); exact ld_fld hT rfl rfl hr AskR.enc_len (adr_add _ _ _) hx (by decide) rfl) | (apply es_storeRow hT; (iterate 6 exact rfl); (first | exact sel0 | exact sel1 ); exact adr_add _ _ _; exact rfl; exact rfl; (first | show (bsN (cA id) l * 10 + 8) + 1 ≤ l.length * 10; omega | show (bsN (cA id) l * 10 + 9) + 1 ≤ l.length * 10; omega | show (bsN (cA id) l * 10 + 7) + 1 ≤ l.length * 10; omega); omega) | (apply aw_condF; iterate 2 exact rfl) | (apply aw_cond; exact rfl; all_goals (intro hb; (try simp only [hb]); (first | replace hb := bne_t hb | replace hb := bne_f hb ); (try omega))))
      apply ret1; exact rfl
      refine ⟨askTab p A c (backA id l) F, ?_, by rw [hE], rfl⟩
      have hll : backA id l = setA id { x with state := 1, hit := 0, until_ := 0 } l := by simp [backA, hg, hE]
      rw [hll, askTab, ← hlay, show (setA id { x with state := 1, hit := 0, until_ := 0 } l).length = l.length by simp [setA]]
      apply dt_cons; (first | exact sel1)
      apply dt_cons; (first | exact sel0)
      (repeat (first | exact dt_end))
    · have hs1 : (x.state != 2) = true := by simpa using hs
      repeat' (first | apply aw_seq | apply aw_region | apply aw_ret | apply aw_block | apply es_nil | apply es_pure hT; iterate 4 exact rfl | apply es_callQ (hs := hof); iterate 7 exact rfl | (apply es_load; (iterate 5 exact rfl); exact ld_fld hT rfl rfl hr AskR.enc_len (adr_add _ _ _) hx (by decide) rfl) | apply aw_condF; iterate 2 exact rfl | (apply aw_cond; exact rfl; all_goals (intro hb; (try simp only [hb]); (first | replace hb := bne_t hb | replace hb := bne_f hb ); (try omega))))
      apply ret1; exact rfl
      exact ⟨_, dt_end, by simp [backE, hg, hs], by simp [backA, backE, hg, hs]⟩
def endE (id state : Int) (l : List AskR) : Int := match getA id l with
  | none => 4
  | some x => if state ≠ 3 ∧ state ≠ 4 then 1 else if x.state = 3 ∨ x.state = 4 ∨ (state = 3 ∧ x.state ≠ 2) then 11 else 0
def endX (state : Int) (x : AskR) : AskR := if state = 4 then { x with state := state, until_ := 0, hit := 0 } else { x with state := state, until_ := 0 }
def endA (id state : Int) (l : List AskR) : List AskR := match getA id l with
  | none => l
  | some x => if endE id state l = 0 then setA id (endX state x) l else l
set_option maxHeartbeats 1000000 in
theorem ask_End (W : World) (F : List Chunk) (p : Nat) (A : Option Addr) (c : Nat) (l : List AskR) (id state : Int) (hb : l.length ≤ 1000000) (hup : upA l) :
    FSpec Tryz.prog W 82 [.pointer (some ⟨p, 0, none⟩), .int .i64 id, .int .i64 state] (askTab p A c l F) (fun v h' => v = .int .i64 (endE id state l) ∧ h' = askTab p A c (endA id state l) F) := by
  refine FSpec.dropTo ?_
  refine spec_body Tryz.func82 rfl rfl Tryz.results82 Tryz.ntmps82 rfl rfl ?_
  refine aw_fact (h := askTab p A c l F) mem1 (fun hl hnc hcc hsome hnone hone => ?_)
  have hr : Reads W (askTab p A c l F) A l.length 10 (l.flatMap AskR.enc) := Reads.own mem1 hl hone
  have hof := (ask_of W p A c l id hb hup).mono (h' := askTab p A c l F) (by intro c hc; simp only [askTab, List.mem_cons, List.not_mem_nil, or_false] at hc ⊢; rcases hc with rfl | rfl <;> simp)
  unfold ofA at hof
  cases hB : bsB (cA id) l
  · rw [hB] at hof
    repeat' (first | apply aw_seq | apply aw_region | apply aw_ret | apply aw_block | apply es_nil | apply es_pure hT; iterate 4 exact rfl | apply es_callQ (hs := hof); iterate 7 exact rfl | apply aw_condT; iterate 2 exact rfl)
    apply ret1; exact rfl
    exact ⟨_, dt_end, by simp [endE, getA_none hB], by simp [endA, getA_none hB]⟩
  · obtain ⟨x, hx, _, hg⟩ := getA_some hB
    rw [hB] at hof
    have hlt := (List.getElem?_eq_some_iff.1 hx).1
    by_cases h0 : endE id state l = 0
    · have hee := h0
      simp only [endE, hg] at hee
      have hst : ¬ (state ≠ 3 ∧ state ≠ 4) := fun h => by rw [if_pos h] at hee; omega
      have hxs : ¬ (x.state = 3 ∨ x.state = 4 ∨ (state = 3 ∧ x.state ≠ 2)) := fun h => by rw [if_neg hst, if_pos h] at hee; omega
      have hll : endA id state l = setA id (endX state x) l := by simp [endA, hg, h0]
      by_cases h4 : state = 4
      · subst h4
        have hX : endX 4 x = { x with state := 4, until_ := 0, hit := 0 } := rfl
        rw [hX] at hll
        have hlay : lay (lay (lay (l.flatMap AskR.enc) (bsN (cA id) l * 10 + 8) [.int .i64 4]) (bsN (cA id) l * 10 + 7) [.int .i64 0]) (bsN (cA id) l * 10 + 9) [.int .i64 0] = (setA id { x with state := 4, until_ := 0, hit := 0 } l).flatMap AskR.enc := by
          rw [flat_lay AskR.enc_len (x' := { x with state := 4 }) hx (Nat.le_of_ble_eq_true rfl) rfl,
            flat_lay AskR.enc_len (x' := { x with state := 4, until_ := 0 }) (List.getElem?_set_self hlt) (Nat.le_of_ble_eq_true rfl) rfl,
            flat_lay AskR.enc_len (x' := { x with state := 4, until_ := 0, hit := 0 }) (List.getElem?_set_self (by simpa using hlt)) (Nat.le_of_ble_eq_true rfl) rfl, List.set_set, List.set_set, setA]
        repeat' (first | apply aw_seq | apply aw_region | apply aw_ret | apply aw_skip | apply aw_block | apply es_nil | apply es_pure hT; iterate 4 exact rfl | apply es_skip; iterate 3 exact rfl | apply es_callQ (hs := hof); iterate 7 exact rfl | (apply es_load; (iterate 5 exact rfl); exact ld_fld hT rfl rfl hr AskR.enc_len (adr_add _ _ _) hx (by decide) rfl) | (apply es_storeRow hT; (iterate 6 exact rfl); (first | exact sel0 | exact sel1 ); exact adr_add _ _ _; exact rfl; exact rfl; (first | show (bsN (cA id) l * 10 + 8) + 1 ≤ l.length * 10; omega | show (bsN (cA id) l * 10 + 9) + 1 ≤ l.length * 10; omega | show (bsN (cA id) l * 10 + 7) + 1 ≤ l.length * 10; omega); omega) | (apply aw_condT; iterate 2 exact rfl) | (apply aw_condF; iterate 2 exact rfl) | (apply es_case; exact rfl; all_goals (intro hb; (try simp only [hb]); (first | replace hb := odt hb | replace hb := odf hb ); (try omega))))
        all_goals first
          | (exfalso; omega)
          | (apply ret1; exact rfl
             refine ⟨askTab p A c (endA id 4 l) F, ?_, by rw [h0], rfl⟩
             rw [hll, askTab, ← hlay, show (setA id { x with state := 4, until_ := 0, hit := 0 } l).length = l.length by simp [setA]]
             apply dt_cons; (first | exact sel1)
             apply dt_cons; (first | exact sel0)
             (repeat (first | exact dt_end)))
      · obtain rfl : state = 3 := by omega
        have hX : endX 3 x = { x with state := 3, until_ := 0 } := rfl
        rw [hX] at hll
        have hlay : lay (lay (l.flatMap AskR.enc) (bsN (cA id) l * 10 + 8) [.int .i64 3]) (bsN (cA id) l * 10 + 7) [.int .i64 0] = (setA id { x with state := 3, until_ := 0 } l).flatMap AskR.enc := by
          rw [flat_lay AskR.enc_len (x' := { x with state := 3 }) hx (Nat.le_of_ble_eq_true rfl) rfl,
            flat_lay AskR.enc_len (x' := { x with state := 3, until_ := 0 }) (List.getElem?_set_self hlt) (Nat.le_of_ble_eq_true rfl) rfl, List.set_set, setA]
        repeat' (first | apply aw_seq | apply aw_region | apply aw_ret | apply aw_skip | apply aw_block | apply es_nil | apply es_pure hT; iterate 4 exact rfl | apply es_skip; iterate 3 exact rfl | apply es_callQ (hs := hof); iterate 7 exact rfl | (apply es_load; (iterate 5 exact rfl); exact ld_fld hT rfl rfl hr AskR.enc_len (adr_add _ _ _) hx (by decide) rfl) | (apply es_storeRow hT; (iterate 6 exact rfl); (first | exact sel0 | exact sel1 ); exact adr_add _ _ _; exact rfl; exact rfl; (first | show (bsN (cA id) l * 10 + 8) + 1 ≤ l.length * 10; omega | show (bsN (cA id) l * 10 + 7) + 1 ≤ l.length * 10; omega); omega) | (apply aw_condF; iterate 2 exact rfl) | (apply es_case; exact rfl; all_goals (intro hb; (try simp only [hb]); (first | replace hb := odt hb | replace hb := odf hb ); (try omega))) | (apply aw_cond; exact rfl; all_goals (intro hb; (try simp only [hb]); (first | replace hb := bne_t hb | replace hb := bne_f hb ); (try omega))))
        all_goals first
          | (exfalso; omega)
          | (apply ret1; exact rfl
             refine ⟨askTab p A c (endA id 3 l) F, ?_, by rw [h0], rfl⟩
             rw [hll, askTab, ← hlay, show (setA id { x with state := 3, until_ := 0 } l).length = l.length by simp [setA]]
             apply dt_cons; (first | exact sel1)
             apply dt_cons; (first | exact sel0)
             (repeat (first | exact dt_end)))
    · have hll : endA id state l = l := by simp [endA, hg, h0]
      repeat' (first | apply aw_seq | apply aw_region | apply aw_ret | apply aw_skip | apply aw_block | apply es_nil | apply es_pure hT; iterate 4 exact rfl | apply es_skip; iterate 3 exact rfl | apply es_callQ (hs := hof); iterate 7 exact rfl | (apply es_load; (iterate 5 exact rfl); exact ld_fld hT rfl rfl hr AskR.enc_len (adr_add _ _ _) hx (by decide) rfl) | apply aw_condT; iterate 2 exact rfl | apply aw_condF; iterate 2 exact rfl | (apply es_case; exact rfl; all_goals (intro hb; (try simp only [hb]); (first | replace hb := odt hb | replace hb := odf hb | replace hb := bne_t hb | replace hb := bne_f hb ); (try omega))) | (apply aw_cond; exact rfl; all_goals (intro hb; (try simp only [hb]); (first | replace hb := bne_t hb | replace hb := bne_f hb ); (try omega))))
      all_goals first
        | (apply ret1; exact rfl; refine ⟨_, dt_end, ?_, by rw [hll]⟩; congr 1; simp only [endE, hg]; (repeat' split) <;> first | rfl | exfalso; omega)
        | (exfalso; apply h0; simp only [endE, hg]; (repeat' split) <;> first | rfl | exfalso; omega)
def zeroA : AskR := ⟨0, 0, 0, 0, 0, 0, 0, 0, 0, 0⟩
def gotA : Option AskR → Value
  | some x => .tuple #[.agg x.enc.toArray, .bool true]
  | none => .tuple #[.agg zeroA.enc.toArray, .bool false]
theorem ask_Get (W : World) (p : Nat) (A : Option Addr) (c : Nat) (l : List AskR) (id : Int) (hb : l.length ≤ 1000000) (hup : upA l) :
    QSpec Tryz.prog W 51 [.pointer (some ⟨p, 0, none⟩), .int .i64 id] (askTab p A c l []) (gotA (getA id l)) := by
  refine QSpec.ofD (fun h' hs => ?_)
  have m1 := hs _ mem0
  have m2 := hs _ mem1
  refine spec_body Tryz.func51 rfl rfl Tryz.results51 Tryz.ntmps51 rfl rfl ?_
  refine aw_fact m2 (fun hl hnc hcc hsome hnone hone => ?_)
  have hr := Reads.own (W := W) m2 hl hone
  have hfind := (ask_find W p A c l id hb hup).mono (h' := h') hs
  unfold findA at hfind
  cases hB : bsB (cA id) l
  · rw [hB] at hfind
    repeat' (first | apply aw_seq | apply aw_region | apply aw_ret | apply es_nil | apply es_pure hT; iterate 4 exact rfl | apply es_alloc hT; (iterate 5 exact rfl); intro g4 | apply es_callQ (hs := (hfind.mono (fun c hc => .tail _ hc))); iterate 7 exact rfl | apply es_build hT; iterate 4 exact rfl | (apply es_store hT; (iterate 6 exact rfl); (first | exact sel0 ); (iterate 3 exact rfl); exact nle rfl) | apply aw_condT; iterate 2 exact rfl)
    apply ret2c; exact rfl; exact ld_all hT rfl rfl mem0 rfl; exact rfl
    exact ⟨by rw [getA_none hB]; rfl, dt_skip dt_end⟩
  · obtain ⟨x, hx, _, hg⟩ := getA_some hB
    have hlt := (List.getElem?_eq_some_iff.1 hx).1
    rw [hB] at hfind
    obtain ⟨g, hA⟩ := hsome (by omega)
    have hA2 : A.isSome = true := by rw [hA]; rfl
    have hx2 : l[((bsN (cA id) l : Nat) : Int).toNat]? = some x := by simpa using hx
    repeat' (first | apply aw_seq | apply aw_region | apply aw_ret | apply aw_skip | apply es_nil | apply es_pure hT; iterate 4 exact rfl | apply es_alloc hT; (iterate 5 exact rfl); intro g4 | apply es_callQ (hs := (hfind.mono (fun c hc => .tail _ hc))); iterate 7 exact rfl | apply es_idx hT; (iterate 8 exact rfl); (iterate 2 omega); exact hA2 | apply es_load; (iterate 5 exact rfl); exact ld_elem hT rfl rfl hr.cons AskR.enc_len rfl hx2 rfl | (apply es_store hT; (iterate 6 exact rfl); (first | exact sel0 ); (iterate 3 exact rfl); exact nle rfl) | (apply es_load; (iterate 5 exact rfl); first | exact ld_blk hT rfl rfl (mcm _ m1) rfl rfl ) | apply aw_condF; iterate 2 exact rfl)
    apply ret2c; exact rfl; exact ld_all hT rfl rfl mem0 rfl; exact rfl
    exact ⟨by rw [hg]; rfl, dt_skip dt_end⟩
end Go.Proofs.YtakilgkpfjhfdaaGreat

namespace Go.Proofs.YtakilgkpfjhfdaaGreat
open Go Go.Sl
attribute [local irreducible] AW ES Ld RetQ
set_option maxRecDepth 100000
theorem isNaNi (W : World) (x : Int) : QSpec Tryz.prog W 199 [.int .i64 x] [] (.bool false) := by
  refine QSpec.of (fun h' hs => ?_)
  refine spec_body Tryz.func199 rfl rfl Tryz.results199 Tryz.ntmps199 rfl rfl ?_
  repeat' (first | apply aw_seq | apply aw_region | apply aw_ret | apply es_nil | apply es_pure hT; iterate 4 exact rfl)
  exact retQ1 (J := []) rfl (by simp) (List.Perm.refl _)
theorem cmpi (W : World) (x y : Int) : QSpec Tryz.prog W 175 [.int .i64 x, .int .i64 y] [] (.int .i64 (cmpI x y)) := by
  refine QSpec.of (fun h' hs => ?_)
  refine spec_body Tryz.func175 rfl rfl Tryz.results175 Tryz.ntmps175 rfl rfl ?_
  repeat' (first | apply aw_seq | apply aw_region | apply aw_ret | apply aw_skip | apply es_nil | apply es_pure hT; iterate 4 exact rfl | (apply es_callQ (hs := ((isNaNi W _).mono (by simp))); iterate 7 exact rfl) | apply aw_condF; iterate 2 exact rfl | (apply aw_cond; exact rfl; all_goals (intro hb; (try simp only [hb]); (first | replace hb := odt hb | replace hb := odf hb ); (try omega))))
  · exact retQ1 (J := []) rfl (by simp [cmpI, hb]) (List.Perm.refl _)
  · rename_i h1; exact retQ1 (J := []) rfl (by simp [cmpI]; omega) (List.Perm.refl _)
  · rename_i h1; exact retQ1 (J := []) rfl (by simp [cmpI]; omega) (List.Perm.refl _)
end Go.Proofs.YtakilgkpfjhfdaaGreat

namespace Go.Proofs.YtakilgkpfjhfdaaGreat
open Go Go.Sl
attribute [local irreducible] AW ES Ld RetQ
set_option maxRecDepth 100000
theorem indexFuncDue (W : World) (h : List Chunk) (A : Option Addr) (n c : Nat) (l : List Due) (hn : l.length = n) (hr : Reads W h A n 3 (l.flatMap Due.enc)) (fn : FuncId) (cap : List Value) (p : Due → Bool)
    (hf : ∀ x ∈ l, QSpec Tryz.prog W fn ([.agg x.enc.toArray] ++ cap) h (.bool (p x))) (hb : n ≤ 4611686018427387903) :
    QSpec Tryz.prog W 133 [.slice A n c, .func (.func fn) #[] cap.toArray] h (.int .i64 (idxOf p l)) := by
  refine QSpec.of (fun h' hs => ?_)
  have hr' := hr.mono hs
  refine spec_body Tryz.func133 rfl rfl Tryz.results133 Tryz.ntmps133 rfl rfl ?_
  refine aw_reads hr' rfl (fun hA => ?_)
  repeat' (first | apply aw_seq | apply aw_region | apply aw_block | apply es_nil | apply es_pure hT; iterate 4 exact rfl)
  refine aw_loop (α := Nat) (E := fun k => [(0, .slice A n c), (1, .func (.func fn) #[] cap.toArray), (7, .int .i64 n), (8, .int .i64 k)]) (H := fun _ => h') (μ := fun k => n - k)
    (S := fun k => k ≤ n ∧ ∀ (j : Nat) y, j < k → l[j]? = some y → p y = false) 0 (J := []) ⟨Nat.zero_le _, fun j y hj => by omega⟩ ⟨rfl, rfl, rfl, rfl, trivial⟩ (List.Perm.refl _) ?_
  rintro k ⟨hk1, hk2⟩
  by_cases hlt : k < n
  · obtain ⟨x, hx⟩ : ∃ x, l[k]? = some x := ⟨l[k]'(by omega), List.getElem?_eq_getElem (by omega)⟩
    have hx2 : l[(k : Int).toNat]? = some x := by simpa using hx
    have hfx := (hf x (List.mem_of_getElem? hx)).mono hs
    have hA' := hA (by omega)
    repeat' (first | apply aw_seq | apply aw_region | apply aw_ret | apply aw_skip | apply aw_block | apply es_nil | apply es_pure hT; iterate 4 exact rfl | apply es_i64 hT; (iterate 4 exact rfl); (iterate 2 omega) | apply es_idx hT; (iterate 8 exact rfl); (iterate 2 omega); exact hA' | apply es_load; (iterate 5 exact rfl); exact ld_elem hT rfl rfl hr' Due.enc_len rfl hx2 rfl | apply es_callQ (hs := hfx); iterate 7 exact rfl | (apply aw_cond; exact rfl; all_goals (intro hb; (try simp only [hb]); (first | replace hb := odt hb | replace hb := odf hb | skip); (try omega))))
    · exact retQ1 (J := []) rfl (by rw [idxOf_at hx hb hk2]) (List.Perm.refl _)
    · have hpx := hb
      refine ⟨k + 1, [], by dsimp only; omega, ⟨by omega, fun j y hj hy => ?_⟩, ⟨rfl, rfl, rfl, rfl, trivial⟩, List.Perm.refl _⟩
      by_cases hjk : j < k
      · exact hk2 j y hjk hy
      · obtain rfl : j = k := by omega
        rw [hx] at hy; cases hy; exact hpx
  · repeat' (first | apply aw_seq | apply aw_region | apply aw_ret | apply aw_exit | apply es_nil | apply es_pure hT; iterate 4 exact rfl | (apply aw_cond; exact rfl; all_goals (intro hb; (try simp only [hb]); (first | replace hb := odt hb | replace hb := odf hb ); (try omega))))
    exact retQ1 (J := []) rfl (by rw [idxOf_none (fun (j : Nat) y hj => hk2 j y (by have := (List.getElem?_eq_some_iff.1 hj).1; omega) hj)]) (List.Perm.refl _)
theorem cloneDue (W : World) (h : List Chunk) (A : Option Addr) (n c : Nat) (cs : List Value) (hr : Reads W h A n 3 cs) (hb : n * 24 ≤ 140737488355328) :
    FSpec Tryz.prog W 79 [.slice A n c] h (fun v h' => ∃ A' c', v = .slice A' n c' ∧ h' = .own A' n c' 121 3 cs :: h) := by
  refine FSpec.drop ?_
  refine spec_body Tryz.func79 rfl rfl Tryz.results79 Tryz.ntmps79 rfl rfl ?_
  refine aw_reads hr rfl (fun hA => ?_)
  cases A with
  | none =>
    have hn : n = 0 := by
      rcases Nat.eq_zero_or_pos n with h | h
      · exact h
      · have := hA h; simp at this
    subst hn
    have hcs : cs = [] := List.eq_nil_of_length_eq_zero (by simpa using hr.len)
    subst hcs
    refine aw_conv (fun w hw => ⟨_, hw.own_nil 121 3, ?_⟩)
    repeat' (first | apply aw_seq | apply aw_region | apply aw_ret | apply es_nil | apply es_pure hT; iterate 4 exact rfl | apply aw_condT; iterate 2 exact rfl)
    apply ret1; exact rfl
    exact ⟨[], _, List.Perm.refl _, none, 0, rfl, rfl⟩
  | some ad =>
    repeat' (first | apply aw_seq | apply aw_region | apply aw_ret | apply aw_skip | apply es_nil | apply es_pure hT; iterate 4 exact rfl | apply es_buildSlice hT; (iterate 12 exact rfl); intro g1 | apply es_append hT; (iterate 10 exact rfl); exact sel0; exact hr.cons; omega; (show (0 + n) * 24 ≤ _; omega); intro A' c' | apply aw_condF; iterate 2 exact rfl)
    apply ret1; exact rfl
    refine ⟨[], _, List.Perm.refl _, A', c', by rw [Nat.zero_add], ?_⟩
    show Chunk.own A' (0 + n) c' 121 3 ([] ++ cs) :: h = _
    simp
theorem deleteDue (W : World) (F : List Chunk) (A : Option Addr) (n c : Nat) (i j : Int) (cs : List Value) (h0 : 0 ≤ i) (hij : i ≤ j) (hjn : j ≤ n) :
    FSpec Tryz.prog W 78 [.slice A n c, .int .i64 i, .int .i64 j] (.own A n c 121 3 cs :: F)
      (fun v h' => v = .slice A (n - (j.toNat - i.toNat)) c ∧ h' = .own A (n - (j.toNat - i.toNat)) c 121 3 (cs.take (i.toNat * 3) ++ cs.drop (j.toNat * 3)) :: F) := by
  obtain ⟨i, rfl⟩ := Int.eq_ofNat_of_zero_le h0
  obtain ⟨j, rfl⟩ := Int.eq_ofNat_of_zero_le (show 0 ≤ j by omega)
  simp only [Int.toNat_natCast]
  by_cases hij0 : i = j
  · subst hij0
    have he : ((i : Int) == (i : Int)) = true := by simp
    refine spec_body Tryz.func78 rfl rfl Tryz.results78 Tryz.ntmps78 rfl rfl ?_
    refine aw_fact mem0 (fun hl hnc hcc hsome hnone hone => ?_)
    repeat' (first | apply aw_seq | apply aw_region | apply aw_ret | apply es_nil | apply es_pure hT; iterate 4 exact rfl | apply es_slice3 hT; (iterate 10 exact rfl); (iterate 3 omega) | apply aw_condT; exact rfl; exact he)
    apply ret1; exact rfl
    exact ⟨by simp, by simp⟩
  · have he : ((i : Int) == (j : Int)) = false := by simp; omega
    have hlt : i < j := by omega
    have hz : (ti121.zero.cells.toList).length = 3 := rfl
    refine FSpec.conv (R := fun v h' => v = .slice A (n - (j - i)) c ∧ ∃ (g : Nat) (cur : List Value), A = some ⟨g, 0, none⟩ ∧ cur.length = c * 3 ∧ cur.take (n * 3) = cs ∧ cs.length = n * 3 ∧ n ≤ c ∧ c ≤ 9223372036854775807 ∧ (∀ v ∈ cs, v.oneCell' = true) ∧
      h' = .blk g 121 (lay (lay cur (i * 3) (cs.drop (j * 3))) ((i + (n - j)) * 3) (repZ ti121.zero.cells.toList (n - (i + (n - j))))) :: F) ?_ ?_
    rotate_left
    · rintro v h' ⟨hv, g, cur, rfl, hcl, htk, hl, hnc, hcc, hone, rfl⟩ w hw
      have hdl : (cs.drop (j * 3)).length = (n - j) * 3 := by rw [List.length_drop, hl, Nat.sub_mul]
      have hyl : (lay cur (i * 3) (cs.drop (j * 3))).length = c * 3 := by rw [lay_len (by omega)]; exact hcl
      have hzl : (repZ ti121.zero.cells.toList (n - (i + (n - j)))).length = (n - (i + (n - j))) * 3 := by rw [repZ_len, hz]
      have hcut : (lay (lay cur (i * 3) (cs.drop (j * 3))) ((i + (n - j)) * 3) (repZ ti121.zero.cells.toList (n - (i + (n - j))))).take ((n - (j - i)) * 3) = cs.take (i * 3) ++ cs.drop (j * 3) := by
        rw [show (n - (j - i)) * 3 = (i + (n - j)) * 3 by omega, take_lay_off (by omega)]
        have := take_lay_mid (Y := cur) (Z := cs.drop (j * 3)) (o := i * 3) (by omega)
        rw [hdl, ← Nat.add_mul] at this
        rw [this, ← htk, List.take_take, Nat.min_eq_left (by omega)]
      refine ⟨_, hw.shut_ (n := n - (j - i)) (c := c) (k := 3) ?_ hcut ?_ (by omega) hcc ?_, hv, rfl⟩
      · rw [lay_len (by omega)]; exact hyl
      · rw [List.length_append, hdl, List.length_take, hl]; omega
      · intro u hu
        rcases List.mem_append.1 hu with hu | hu
        · exact hone u (List.mem_of_mem_take hu)
        · exact hone u (List.mem_of_mem_drop hu)
    refine spec_body Tryz.func78 rfl rfl Tryz.results78 Tryz.ntmps78 rfl rfl ?_
    refine aw_fact mem0 (fun hl hnc hcc hsome hnone hone => ?_)
    obtain ⟨g, rfl⟩ := hsome (by omega)
    refine aw_open sel0 (fun cur hcl htk _ _ _ _ => ?_)
    have hr0 : Reads W (.blk g 121 cur :: F) (some ⟨g, 0, none⟩) n 3 cs := Reads.blk mem0 (by simpa using htk) hl hone
    have hr1 := hr0.cut hnc (show j ≤ n by omega) (Nat.le_refl n)
    rw [List.take_of_length_le (by rw [List.length_drop, hl, Nat.sub_mul]; omega)] at hr1
    have hdl : (cs.drop (j * 3)).length = (n - j) * 3 := hr1.len
    have hyl : (lay cur (i * 3) (cs.drop (j * 3))).length = c * 3 := by rw [lay_len (by omega)]; exact hcl
    repeat' (first | apply aw_seq | apply aw_region | apply aw_ret | apply aw_skip | apply es_nil | apply es_pure hT; iterate 4 exact rfl | apply aw_draw [] [] hmix; decide +kernel | apply es_slice3 hT; (iterate 10 exact rfl); (iterate 3 omega) | apply aw_condF; exact rfl; exact he | apply es_sliceTo hT; (iterate 8 exact rfl); (iterate 2 omega) | apply es_sliceFrom hT; (iterate 8 exact rfl); (iterate 3 omega); exact rfl | apply es_appendR hT (k := 3); (iterate 11 exact rfl); exact sel0; exact hr1; omega; (show i * 3 + (n - j) * 3 ≤ _; omega) | (apply es_sliceBoth hT; (iterate 9 exact rfl); (iterate 3 omega); exact cutA_ne (by omega)) | apply es_clear hT (k := 3); (iterate 9 exact rfl); exact sel0; exact rfl; (show (i + (n - j)) * 3 + (n - (i + (n - j))) * 3 ≤ (lay cur (i * 3) (cs.drop (j * 3))).length; omega))
    apply ret1; exact rfl
    exact ⟨by rw [show n - (j - i) = i + (n - j) by omega]; rfl, g, cur, rfl, hcl, htk, hl, hnc, hcc, hone, rfl⟩
end Go.Proofs.YtakilgkpfjhfdaaGreat

namespace Go.Proofs.YtakilgkpfjhfdaaGreat
open Go Go.Sl
attribute [local irreducible] AW ES Ld RetQ
set_option maxRecDepth 100000
theorem bsearchDue (W : World) (h : List Chunk) (A : Option Addr) (n c : Nat) (l : List Due) (hn : l.length = n) (hr : Reads W h A n 3 (l.flatMap Due.enc)) (tgt : Value) (htg : ∃ a, tgt = .agg (Due.enc a).toArray) (fn : FuncId) (cap : List Value) (cf : Due → Int)
    (hf : ∀ x ∈ l, QSpec Tryz.prog W fn ([.agg x.enc.toArray, tgt] ++ cap) h (.int .i64 (cf x))) (hmono : ∀ (i j : Nat) x y, i ≤ j → l[i]? = some x → l[j]? = some y → cf y < 0 → cf x < 0) (hb : n ≤ 2305843009213693951) :
    QSpec Tryz.prog W 148 [.slice A n c, tgt, .func (.func fn) #[] cap.toArray] h (.tuple #[.int .i64 (bsN cf l), .bool (bsB cf l)]) := by
  obtain ⟨ta, rfl⟩ := htg
  refine QSpec.of (fun h' hs => ?_)
  have hr' := hr.mono hs
  refine spec_body Tryz.func148 rfl rfl Tryz.results148 Tryz.ntmps148 rfl rfl ?_
  refine aw_reads hr' rfl (fun hA => ?_)
  repeat' (first | apply aw_seq | apply aw_region | apply aw_block | apply es_nil | apply es_pure hT; iterate 4 exact rfl | apply es_box; (iterate 5 exact rfl); intro _)
  refine aw_loop (α := Int × Int) (E := fun p => [(0, .slice A n c), (2, .func (.func fn) #[] cap.toArray), (4, _), (8, .int .i64 n), (9, .int .i64 p.1), (10, .int .i64 p.2)]) (H := fun _ => _) (μ := fun p => (p.2 - p.1).toNat)
    (S := fun p => 0 ≤ p.1 ∧ p.1 ≤ p.2 ∧ p.2 ≤ n ∧ (∀ (k : Nat) y, (k : Int) < p.1 → l[k]? = some y → cf y < 0) ∧ (∀ (k : Nat) y, p.2 ≤ (k : Int) → l[k]? = some y → ¬ cf y < 0)) (0, (n : Int)) (J := [])
    ⟨by simp, by simp, by simp, fun k y hk => by simp at hk; omega, fun k y hk hy => by have := (List.getElem?_eq_some_iff.1 hy).1; simp at hk; omega⟩ ⟨rfl, rfl, rfl, rfl, rfl, rfl, trivial⟩ (List.Perm.refl _) ?_
  rintro ⟨i, j⟩ ⟨s1, s2, s3, s4, s5⟩
  simp only at s1 s2 s3 s4 s5
  by_cases hlt : i < j
  · obtain ⟨m, hm⟩ : ∃ m : Nat, (i + j) / 2 = (m : Int) := ⟨((i + j) / 2).toNat, by omega⟩
    have hm2 : ((i + j) / 2).toNat = m := by omega
    obtain ⟨x, hx⟩ : ∃ x, l[m]? = some x := ⟨l[m]'(by omega), List.getElem?_eq_getElem (by omega)⟩
    have hx2 : l[((i + j) / 2).toNat]? = some x := by rw [hm2]; exact hx
    have hfx := (hf x (List.mem_of_getElem? hx)).mono hs
    have hA' := hA (by omega)
    repeat' (first | apply aw_seq | apply aw_region | apply aw_skip | apply aw_block | apply es_nil | apply es_pure hT; iterate 4 exact rfl | apply es_i64 hT; (iterate 4 exact rfl); (iterate 2 omega) | apply aw_draw [] [] hmix; decide +kernel | apply es_u64 hT; (iterate 4 exact rfl); (iterate 2 omega) | apply es_half; iterate 6 exact rfl | apply es_idx hT; (iterate 8 exact rfl); (iterate 2 omega); exact hA' | (apply es_load; (iterate 5 exact rfl); first | exact ld_elem hT rfl rfl hr'.cons Due.enc_len rfl hx2 rfl) | apply es_callQ (hs := (hfx.mono (fun c hc => mcm _ hc))); iterate 7 exact rfl | (apply es_load; (iterate 5 exact rfl); first | exact ld_all hT rfl rfl mem0 rfl) | (apply aw_cond; exact rfl; all_goals (intro hb; (try simp only [hb]); (first | replace hb := odt hb | replace hb := odf hb ); (try omega))))
    · have hcx := hb
      refine ⟨((i + j) / 2 + 1, j), [], by dsimp only; omega, ⟨by dsimp only; omega, by dsimp only; omega, s3, fun k y hk hy => ?_, s5⟩, ⟨rfl, rfl, rfl, rfl, rfl, rfl, trivial⟩, List.Perm.refl _⟩
      exact hmono k m y x (by dsimp only at hk; omega) hy hx hcx
    · have hcx := hb
      refine ⟨(i, (i + j) / 2), [], by dsimp only; omega, ⟨s1, by dsimp only; omega, by dsimp only; omega, s4, fun k y hk hy hneg => hcx (hmono m k x y (by dsimp only at hk; omega) hx hy hneg)⟩, ⟨rfl, rfl, rfl, rfl, rfl, rfl, trivial⟩, List.Perm.refl _⟩
  · obtain ⟨m, hm⟩ : ∃ m : Nat, i = (m : Int) := ⟨i.toNat, by omega⟩
    subst hm
    obtain rfl : j = (m : Int) := by omega
    have hbs : bsN cf l = m := bsN_eq (by omega) (fun k y hk hy => s4 k y (by omega) hy) (fun y hy => s5 m y (by omega) hy)
    by_cases hmn : m < n
    · obtain ⟨x, hx⟩ : ∃ x, l[m]? = some x := ⟨l[m]'(by omega), List.getElem?_eq_getElem (by omega)⟩
      have hx2 : l[(m : Int).toNat]? = some x := by simpa using hx
      have hfx := (hf x (List.mem_of_getElem? hx)).mono hs
      have hA' := hA (by omega)
      have hd : decide ((m : Int) < (n : Int)) = true := by simp; omega
      repeat' (first | apply aw_seq | apply aw_region | apply aw_ret | apply aw_exit | apply es_nil | apply es_pure hT; iterate 4 exact rfl | apply aw_draw [] [] hmix; decide +kernel | apply es_idx hT; (iterate 8 exact rfl); (iterate 2 omega); exact hA' | (apply es_load; (iterate 5 exact rfl); first | exact ld_elem hT rfl rfl hr'.cons Due.enc_len rfl hx2 rfl) | apply es_callQ (hs := (hfx.mono (fun c hc => mcm _ hc))); iterate 7 exact rfl | (apply es_load; (iterate 5 exact rfl); first | exact ld_all hT rfl rfl mem0 rfl) | (apply es_case; exact rfl; all_goals (intro hb; (try simp only [hb]); (first | replace hb := odt hb | replace hb := odf hb ); (try omega))) | (apply aw_cond; exact rfl; all_goals (intro hb; (try simp only [hb]); (first | replace hb := odt hb | replace hb := odf hb ); (try omega))))
      apply ret2; exact rfl; exact rfl
      exact ⟨by rw [bsB, hbs, hx], [_], List.Perm.refl _⟩
    · have hx : l[m]? = none := List.getElem?_eq_none (by omega)
      repeat' (first | apply aw_seq | apply aw_region | apply aw_ret | apply aw_exit | apply es_nil | apply es_pure hT; iterate 4 exact rfl | apply es_skip; iterate 3 exact rfl | apply aw_draw [] [] hmix; decide +kernel | (apply es_case; exact rfl; all_goals (intro hb; (try simp only [hb]); (first | replace hb := odt hb | replace hb := odf hb ); (try omega))) | (apply aw_cond; exact rfl; all_goals (intro hb; (try simp only [hb]); (first | replace hb := odt hb | replace hb := odf hb ); (try omega))))
      apply ret2; exact rfl; exact rfl
      exact ⟨by rw [bsB, hbs, hx], [_], List.Perm.refl _⟩
end Go.Proofs.YtakilgkpfjhfdaaGreat

namespace Go.Proofs.YtakilgkpfjhfdaaGreat
open Go Go.Sl
attribute [local irreducible] AW ES Ld RetQ
set_option maxRecDepth 100000
theorem overlapsDue (W : World) (h : List Chunk) (gv g n c o m2 c2 : Nat) (vs cur : List Value) (hv : Chunk.own (some ⟨gv, 0, none⟩) 1 1 121 3 vs ∈ h) (hg : Chunk.blk g 121 cur ∈ h) (hne : gv ≠ g) (hcur : cur.length ≠ 0) :
    ∀ w, RepS W h w → (callFunc 176 [Value.slice (some ⟨gv, 0, none⟩) 1 1, .slice (some ⟨g, o, none⟩) m2 c2].toArray).run Tryz.prog w = .ok (.value (.bool false)) w := fun w hw => by
  have h1 := hw.heap_blk hg
  have h2 := (hw.holds _ hv).1
  rcases h2.2 with ⟨hx, _⟩ | ⟨g', cap, cv, hx, _, hgv, _⟩
  · cases hx
  · injection hx with hA _ _
    injection hA with hA
    injection hA with hA _ _
    subst hA
    have hz : ∀ w, (Go.sizeOf 121).run Tryz.prog w = .ok 3 w := fun w => (hT _ _ (rfl : TT.lookup 121 = some ti121)).sz w
    rw [run_callFunc_extern Tryz.func176 (by kernel_rfl) (by kernel_rfl) (by kernel_rfl) (e := Extern.SlicesOverlaps.overlaps #[118, 118] #[4]) (by kernel_rfl)]
    have := Lib.run_overlaps_apart (P := Tryz.prog) w 118 4 121 Tryz.underlying118 3 hz ⟨gv, 0, none⟩ ⟨g, o, none⟩ 1 1 m2 c2 hne 121 121 cv.size cur.length (by simp [World.shape?, hgv]) (by simp [World.shape?, h1]) hcur (by simp [World.frozen?, hgv]) (by simp [World.frozen?, hgv])
    rw [this]
    rfl
theorem insertDue (W : World) (F : List Chunk) (A : Option Addr) (n c : Nat) (i : Int) (cs : List Value) (gv : Nat) (vs : List Value) (hv : Chunk.own (some ⟨gv, 0, none⟩) 1 1 121 3 vs ∈ F) (h0 : 0 ≤ i) (hin : i ≤ n) (hb : (n + 1) * 24 ≤ 140737488355328) :
    FSpec Tryz.prog W 150 [.slice A n c, .int .i64 i, .slice (some ⟨gv, 0, none⟩) 1 1] (.own A n c 121 3 cs :: F)
      (fun v h' => ∃ A' c', v = .slice A' (n + 1) c' ∧ h' = .own A' (n + 1) c' 121 3 (cs.take (i.toNat * 3) ++ vs ++ cs.drop (i.toNat * 3)) :: F) := by
  obtain ⟨i, rfl⟩ := Int.eq_ofNat_of_zero_le h0
  simp only [Int.toNat_natCast]
  refine FSpec.drop ?_
  refine spec_body Tryz.func150 rfl rfl Tryz.results150 Tryz.ntmps150 rfl rfl ?_
  refine aw_fact mem0 (fun hl hnc hcc hsome hnone hone => ?_)
  refine aw_fact (mcm _ hv) (fun hvl _ _ _ _ hvone => ?_)
  have hvl : vs.length = 3 := by simpa using hvl
  have hrvG : ∀ c0, Reads W (c0 :: F) (some ⟨gv, 0, none⟩) 1 3 vs := fun c0 => Reads.own (mcm _ hv) (by simpa using hvl) hvone
  have hrv := hrvG (.own A n c 121 3 cs)
  have hmin1 : ∀ m, 0 < m → Nat.min 1 m = 1 := fun m hm => by show min 1 m = 1; omega
  have hrs : Reads W (.own A n c 121 3 cs :: F) A n 3 cs := Reads.own mem0 hl hone
  by_cases hi : i = n
  · subst hi
    have he : ((i : Int) == (i : Int)) = true := by simp
    repeat' (first | apply aw_seq | apply aw_region | apply aw_ret | apply aw_skip | apply es_nil | apply es_pure hT; iterate 4 exact rfl | apply es_sliceFrom hT; (iterate 8 exact rfl); (iterate 3 omega); exact rfl | apply aw_condT; exact rfl; exact he | apply es_append hT; (iterate 10 exact rfl); exact sel0; exact hrv; omega; (show (i + 1) * 24 ≤ _; omega); intro A' c' | apply aw_condF; iterate 2 exact rfl)
    apply ret1; exact rfl
    refine ⟨[], _, List.Perm.refl _, A', c', rfl, ?_⟩
    show Chunk.own A' (i + 1) c' 121 3 (cs ++ vs) :: F = _
    rw [List.take_of_length_le (by omega), List.drop_of_length_le (by omega), List.append_nil]
  · have hlt : i < n := by omega
    have he : ((i : Int) == (n : Int)) = false := by simp; omega
    obtain ⟨g, rfl⟩ := hsome (by omega)
    by_cases hroom : n + 1 ≤ c
    ·
      refine aw_conv (fun w hw => ?_)
      have hnd := hw.nodup
      have hgv : gv ≠ g := by
        intro e
        simp only [List.flatMap_cons, List.nodup_append] at hnd
        exact hnd.2.2 g (by simp [Chunk.keys]) g (List.mem_flatMap.2 ⟨_, hv, by simp [Chunk.keys, e]⟩) rfl
      refine ⟨_, hw, ?_⟩
      refine aw_open sel0 (fun cur hcl htk _ _ _ _ => ?_)
      have hr0 : Reads W (.blk g 121 cur :: F) (some ⟨g, 0, none⟩) n 3 cs := Reads.blk mem0 (by simpa using htk) hl hone
      have hr1 := hr0.cut hnc (show i ≤ n by omega) (Nat.le_refl n)
      rw [List.take_of_length_le (by rw [List.length_drop, hl, Nat.sub_mul]; omega), cutA_ne (by omega)] at hr1
      have hdl : (cs.drop (i * 3)).length = (n - i) * 3 := hr1.len
      have hmin2 : Nat.min (n + 1 - i) (n + 1 - (i + 1)) = n - i := by show min (n + 1 - i) (n + 1 - (i + 1)) = n - i; omega
      have hov := overlapsDue W (.blk g 121 cur :: F) gv g n c ((i + 1) * 3) (n + 1 - (i + 1)) (c - (i + 1)) vs cur (mcm _ hv) mem0 hgv (by omega)
      refine aw_post (Q' := RetQ Tryz.prog W #[ResultVar.tmp 6].toList (fun v h' => v = .slice (some ⟨g, 0, none⟩) (n + 1) c ∧ h' = .blk g 121 (lay (lay cur (i * 3 + vs.length) (cs.drop (i * 3))) (i * 3) vs) :: F)) (retq_conv ?_) ?_
      · rintro v h' ⟨hv', rfl⟩ w hw
        have hb2 := lay_before (cur := cur) (v := vs) (S := cs.drop (i * 3)) (a := i * 3) (by omega)
        rw [hb2] at hw
        have htk2 : cur.take (i * 3) = cs.take (i * 3) := by rw [← htk, List.take_take, Nat.min_eq_left (by omega)]
        have hone2 : ∀ u ∈ cs.take (i * 3) ++ vs ++ cs.drop (i * 3), u.oneCell' = true := fun u hu => by
          simp only [List.mem_append] at hu
          rcases hu with (hu | hu) | hu
          · exact hone u (List.mem_of_mem_take hu)
          · exact hvone u hu
          · exact hone u (List.mem_of_mem_drop hu)
        have hl2 : (cs.take (i * 3) ++ vs ++ cs.drop (i * 3)).length = (n + 1) * 3 := by simp only [List.length_append, List.length_take, hdl, hvl, hl]; omega
        refine ⟨_, hw.shut_ (n := n + 1) (c := c) (k := 3) ?_ ?_ hl2 hroom hcc hone2, [], _, List.Perm.refl _, some ⟨g, 0, none⟩, c, hv', rfl⟩
        · simp only [List.length_append, List.length_take, List.length_drop, hvl, hcl, hl]; omega
        · rw [htk2, ← hl2, List.take_left]
      · repeat' (first | apply aw_seq | apply aw_region | apply aw_ret | apply aw_skip | apply es_nil | apply es_pure hT; iterate 4 exact rfl | apply es_i64 hT; (iterate 4 exact rfl); (iterate 2 omega) | apply aw_draw [] [] hmix; decide +kernel | (apply es_sliceFrom hT; (iterate 8 exact rfl); (iterate 3 omega); first | exact cutA_ne (by omega) ) | apply es_cap hT; iterate 6 exact rfl | apply es_sliceTo hT; (iterate 8 exact rfl); (iterate 2 omega) | apply aw_condF; exact rfl; exact he | apply es_extern; (iterate 6 exact rfl); exact hov | (apply es_copyB hT (k := 3); (iterate 10 exact rfl); exact sel0; exact rfl; exact (show Reads W (.blk g 121 cur :: F) (some ⟨g, i * 3, none⟩) (Nat.min (n + 1 - i) (n + 1 - (i + 1))) 3 (cs.drop (i * 3)) from (by rw [hmin2]; exact hr1)); (show (i + 1) * 3 + (cs.drop (i * 3)).length ≤ cur.length; omega)) | (apply es_copyB hT (k := 3); (iterate 10 exact rfl); exact sel0; exact rfl; exact (show Reads W _ (some ⟨gv, 0, none⟩) (Nat.min 1 (n + 1 - i)) 3 vs from (by rw [hmin1 _ (by omega)]; exact hrvG _)); (show i * 3 + vs.length ≤ (lay cur ((i + 1) * 3) (cs.drop (i * 3))).length; rw [lay_len (by omega)]; omega)) | apply aw_condT; iterate 2 exact rfl | apply aw_condF; iterate 2 exact rfl | (apply aw_cond; exact rfl; all_goals (intro hb; (try simp only [hb]); (first | replace hb := odt hb | replace hb := odf hb ); (try omega))))
        apply ret1; exact rfl
        refine ⟨rfl, ?_⟩
        show Chunk.blk g 121 (lay (lay cur ((i + 1) * 3) (cs.drop (i * 3))) (i * 3) vs) :: F = _
        rw [hvl, ← Nat.succ_mul]
    ·
      have hz : (ti121.zero.cells.toList).length = 3 := rfl
      have hr1 : ∀ c0, Reads W (c0 :: .own (some ⟨g, 0, none⟩) n c 121 3 cs :: F) (some ⟨g, i * 3, none⟩) (n - i) 3 (cs.drop (i * 3)) := fun c0 => by
        have := (Reads.own (W := W) (h := c0 :: .own (some ⟨g, 0, none⟩) n c 121 3 cs :: F) mem1 hl hone).cut hnc (show i ≤ n by omega) (Nat.le_refl n)
        rw [List.take_of_length_le (by rw [List.length_drop, hl, Nat.sub_mul]; omega), cutA_ne (by omega)] at this
        exact this
      have hdl : (cs.drop (i * 3)).length = (n - i) * 3 := (hr1 (.blk 0 0 [])).len
      have hmin3 : Nat.min (n - i) (i + (n + 1 - i) - (i + 1)) = n - i := by show min (n - i) (i + (n + 1 - i) - (i + 1)) = n - i; omega
      refine aw_post (Q' := RetQ Tryz.prog W #[ResultVar.tmp 6].toList (fun v h' => ∃ (g2 c2 : Nat) (cur : List Value), n + 1 ≤ c2 ∧ c2 ≤ 9223372036854775807 ∧ cur.length = c2 * 3 ∧ cur.take (i * 3) = cs.take (i * 3) ∧ v = .slice (some ⟨g2, 0, none⟩) (n + 1) c2 ∧
        h' = .blk g2 121 (lay (lay cur (i * 3) vs) (i * 3 + vs.length) (cs.drop (i * 3))) :: .own (some ⟨g, 0, none⟩) n c 121 3 cs :: F)) (retq_conv ?_) ?_
      · rintro v h' ⟨g2, c2, cur, k1, k2, k3, k4, hv', rfl⟩ w hw
        have ha2 := lay_after (cur := cur) (v := vs) (S := cs.drop (i * 3)) (a := i * 3) (by omega)
        rw [ha2, k4] at hw
        have hone2 : ∀ u ∈ cs.take (i * 3) ++ vs ++ cs.drop (i * 3), u.oneCell' = true := fun u hu => by
          simp only [List.mem_append] at hu
          rcases hu with (hu | hu) | hu
          · exact hone u (List.mem_of_mem_take hu)
          · exact hvone u hu
          · exact hone u (List.mem_of_mem_drop hu)
        have hl2 : (cs.take (i * 3) ++ vs ++ cs.drop (i * 3)).length = (n + 1) * 3 := by simp only [List.length_append, List.length_take, hdl, hvl, hl]; omega
        refine ⟨_, hw.shut_ (n := n + 1) (c := c2) (k := 3) ?_ ?_ hl2 k1 k2 hone2, [.own (some ⟨g, 0, none⟩) n c 121 3 cs], _, sel1, some ⟨g2, 0, none⟩, c2, hv', rfl⟩
        · simp only [List.length_append, List.length_take, List.length_drop, hvl, k3, hl]; omega
        · rw [← hl2, List.take_left]
      · repeat' (first | apply aw_seq | apply aw_region | apply aw_ret | apply aw_skip | apply es_nil | apply es_pure hT; iterate 4 exact rfl | apply es_i64 hT; (iterate 4 exact rfl); (iterate 2 omega) | apply aw_draw [] [] hmix; decide +kernel | apply es_cap hT; iterate 6 exact rfl | apply es_sliceTo hT; (iterate 8 exact rfl); (iterate 2 omega) | (apply es_sliceFrom hT; (iterate 8 exact rfl); (iterate 3 omega); first | exact cutA_ne (by omega) ) | apply aw_condF; exact rfl; exact he | (apply es_appendZ hT (m := n + 1 - i); (iterate 12 exact rfl); omega; exact hrs.take (show i ≤ n by omega); omega; omega; omega; (show (i + (n + 1 - i)) * 24 ≤ _; omega); intro g2 c2 hc2) | (apply es_copyB hT (k := 3); (iterate 10 exact rfl); exact sel0; exact rfl; exact (show Reads W _ (some ⟨gv, 0, none⟩) (Nat.min 1 (i + (n + 1 - i) - i)) 3 vs from (by rw [hmin1 _ (by omega)]; exact (hrvG _).cons)); (show i * 3 + vs.length ≤ cur.length; omega)) | (apply es_copyB hT (k := 3); (iterate 10 exact rfl); exact sel0; exact rfl; exact (show Reads W _ (some ⟨g, i * 3, none⟩) (Nat.min (n - i) (i + (n + 1 - i) - (i + 1))) 3 (cs.drop (i * 3)) from (by rw [hmin3]; exact hr1 _)); (show (i + 1) * 3 + (cs.drop (i * 3)).length ≤ (lay cur (i * 3) vs).length; rw [lay_len (by omega)]; omega)) | apply es_open rfl sel0; intro cur hcl htk hc3 hc4; replace hcl : cur.length = c2 * 3 := hcl | apply aw_condF; iterate 2 exact rfl | (apply aw_cond; exact rfl; all_goals (intro hb; (try simp only [hb]); (first | replace hb := odt hb | replace hb := odf hb ); (try omega))))
        apply ret1; exact rfl
        refine ⟨g2, c2, cur, by omega, hc4, hcl, ?_, by show Value.slice (some ⟨g2, 0, none⟩) (i + (n + 1 - i)) c2 = _; rw [show i + (n + 1 - i) = n + 1 by omega], ?_⟩
        · have e1 : cur.take ((i + (n + 1 - i)) * 3) = cs.take (i * 3) ++ repZ ti121.zero.cells.toList (n + 1 - i) := htk
          have e2 := congrArg (List.take (i * 3)) e1
          rw [List.take_take, Nat.min_eq_left (by omega), List.take_append_of_le_length (by rw [List.length_take]; omega), List.take_take, Nat.min_self] at e2
          exact e2
        · show Chunk.blk g2 121 (lay (lay cur (i * 3) vs) ((i + 1) * 3) (cs.drop (i * 3))) :: _ = _
          rw [hvl, ← Nat.succ_mul]
end Go.Proofs.YtakilgkpfjhfdaaGreat

namespace Go.Proofs.YtakilgkpfjhfdaaGreat
open Go Go.Sl
attribute [local irreducible] AW ES Ld RetQ
set_option maxRecDepth 100000
def dueRow (p : Nat) (A : Option Addr) (c : Nat) (l : List Due) (F : List Chunk) : List Chunk :=
  .blk p 133 [.slice A l.length c] :: .own A l.length c 121 3 (l.flatMap Due.enc) :: F
def ordD (a b : Due) : Int := orI [cmpI a.tick b.tick, cmpI a.kind b.kind, cmpI a.id b.id]
def hasD (kind id : Int) (d : Due) : Bool := d.kind == kind && d.id == id
theorem due_find1 (W : World) (d : Due) (b1 b2 : Nat) (kind id : Int) :
   QSpec Tryz.prog W 134 [.agg d.enc.toArray, .pointer (some ⟨b1, 0, none⟩), .pointer (some ⟨b2, 0, none⟩)] [.blk b1 3 [.int .i64 kind], .blk b2 2 [.int .i64 id]] (.bool (hasD kind id d)) := by
  refine QSpec.of (fun h' hs => ?_)
  have m1 := hs _ mem0
  have m2 := hs _ mem1
  refine spec_body Tryz.func134 rfl rfl Tryz.results134 Tryz.ntmps134 rfl rfl ?_
  repeat' (first | apply aw_seq | apply aw_region | apply aw_ret | apply es_nil | apply es_pure hT; iterate 4 exact rfl | apply es_skip; iterate 3 exact rfl | (apply es_load; (iterate 5 exact rfl); first | (apply ld_blk hT; exact rfl; exact rfl; (repeat (first | exact mcs | exact m1 | exact m2 | apply mcm )); exact rfl; exact rfl) ) | apply es_box; (iterate 5 exact rfl); intro _ | (apply es_case; exact rfl; all_goals (intro hb; (fail_if_success (change true = true at hb)); (fail_if_success (change false = false at hb)); (try dsimp only at hb); (try simp only [hb]); (first | replace hb := odt hb | replace hb := odf hb ); (try omega))))
  · apply retQ1 (J := [_]); exact rfl; rotate_left; exact List.Perm.refl _
    simp [hasD, hb]
  · apply retQ1 (J := [_]); exact rfl; rotate_left; exact List.Perm.refl _
    simp [hasD, hb]
theorem due_order (W : World) (a b : Due) : QSpec Tryz.prog W 149 [.agg a.enc.toArray, .agg b.enc.toArray] [] (.int .i64 (ordD a b)) := by
  refine QSpec.of (fun h' hs => ?_)
  refine spec_body Tryz.func149 rfl rfl Tryz.results149 Tryz.ntmps149 rfl rfl ?_
  repeat' (first | apply aw_seq | apply aw_region | apply aw_ret | apply es_nil | apply es_pure hT; iterate 4 exact rfl | apply aw_draw [71, 175, 174] [] hmix; decide +kernel | (apply es_callQ (hs := ((cmp64 W _ _).mono (by simp))); iterate 7 exact rfl) | (apply es_callQ (hs := ((cmpi W _ _).mono (by simp))); iterate 7 exact rfl) | apply es_buildSlice hT; (iterate 12 exact rfl); intro g1 | (apply es_callQ (hs := (cmpOr W _ _ 3 3 [cmpI a.tick b.tick, cmpI a.kind b.kind, cmpI a.id b.id] rfl (Reads.own mem0 rfl (by simp [Value.oneCell'])) (by omega))); iterate 7 exact rfl) | (apply es_load; (iterate 5 exact rfl); first | (apply ld_blk hT; exact rfl; exact rfl; (repeat (first | exact mcs | apply mcm )); exact rfl; exact rfl) ) | apply es_box; (iterate 5 exact rfl); intro _)
  apply retQ1 (J := [_, _, _]); exact rfl; exact rfl; exact List.Perm.refl _
theorem due_find (W : World) (p : Nat) (A : Option Addr) (c : Nat) (l : List Due) (kind id : Int) (hb : l.length ≤ 1000000) :
    QSpec Tryz.prog W 77 [.pointer (some ⟨p, 0, none⟩), .int .i64 kind, .int .i64 id] (dueRow p A c l []) (.int .i64 (idxOf (hasD kind id) l)) := by
  refine QSpec.of (fun h' hs => ?_)
  have m1 := hs _ mem0
  have m2 := hs _ mem1
  refine spec_body Tryz.func77 rfl rfl Tryz.results77 Tryz.ntmps77 rfl rfl ?_
  refine aw_fact m2 (fun hl hnc hcc hsome hnone hone => ?_)
  have hr := Reads.own (W := W) m2 hl hone
  have hq : ∀ g1 g2, QSpec Tryz.prog W 133 [.slice A l.length c, .func (.func 134) #[] #[.pointer (some ⟨g1, 0, none⟩), .pointer (some ⟨g2, 0, none⟩)]]
      (.blk g2 2 [.int .i64 id] :: .blk g1 3 [.int .i64 kind] :: h') (.int .i64 (idxOf (hasD kind id) l)) := fun g1 g2 =>
    indexFuncDue W _ A _ c l rfl hr.cons.cons _ [_, _] (hasD kind id) (fun x _ => (due_find1 W x g1 g2 kind id).mono (by intro c hc; simp only [List.mem_cons, List.not_mem_nil, or_false] at hc; rcases hc with rfl | rfl <;> simp)) (by omega)
  repeat' (first | apply aw_seq | apply aw_region | apply aw_ret | apply es_nil | apply es_pure hT; iterate 4 exact rfl | apply es_callQ (hs := (hq _ _)); iterate 7 exact rfl | (apply es_load; (iterate 5 exact rfl); first | (apply ld_blk hT; exact rfl; exact rfl; (repeat (first | exact m1 | apply mcm )); exact rfl; exact rfl) ) | apply es_box; (iterate 5 exact rfl); intro _)
  apply retQ1 (J := [_, _]); exact rfl; exact rfl; exact List.Perm.refl _
def insD (l : List Due) (d : Due) : List Due := l.take (bsN (ordD · d) l) ++ [d] ++ l.drop (bsN (ordD · d) l)
theorem insD_len (l : List Due) (d : Due) : (insD l d).length = l.length + 1 := by simp [insD]; omega
def addD (l : List Due) (d : Due) : List Due := if idxOf (hasD d.kind d.id) l < 0 then insD l d else l
theorem due_Add (W : World) (F : List Chunk) (p : Nat) (A : Option Addr) (c : Nat) (l : List Due) (d : Due) (hb : l.length ≤ 1000000)
    (hmono : ∀ (i j : Nat) x y, i ≤ j → l[i]? = some x → l[j]? = some y → ordD y d < 0 → ordD x d < 0) :
    FSpec Tryz.prog W 105 [.pointer (some ⟨p, 0, none⟩), .agg d.enc.toArray] (dueRow p A c l F) (fun v h' => v = .bool (decide (idxOf (hasD d.kind d.id) l < 0)) ∧ ∃ A' c', h' = dueRow p A' c' (addD l d) F) := by
  refine FSpec.dropTo ?_
  refine spec_body Tryz.func105 rfl rfl Tryz.results105 Tryz.ntmps105 rfl rfl ?_
  have hfind : ∀ g1, QSpec Tryz.prog W 77 [.pointer (some ⟨p, 0, none⟩), .int .i64 d.kind, .int .i64 d.id] (.blk g1 121 d.enc.toArray.toList :: dueRow p A c l F) (.int .i64 (idxOf (hasD d.kind d.id) l)) := fun g1 =>
    (due_find W p A c l d.kind d.id hb).mono (by intro c hc; simp only [dueRow, List.mem_cons, List.not_mem_nil, or_false] at hc ⊢; rcases hc with rfl | rfl <;> simp)
  refine aw_fact (h := dueRow p A c l F) mem1 (fun hl hnc hcc hsome hnone hone => ?_)
  by_cases hi : idxOf (hasD d.kind d.id) l < 0
  · have hd : decide (idxOf (hasD d.kind d.id) l ≥ 0) = false := by simp; omega
    have hr : ∀ g1, Reads W (.blk g1 121 d.enc.toArray.toList :: dueRow p A c l F) A l.length 3 (l.flatMap Due.enc) := fun g1 => Reads.own mem2 hl hone
    have hbs : ∀ g1, QSpec Tryz.prog W 148 [.slice A l.length c, .agg d.enc.toArray, .func (.func 149) #[] #[]] (.blk g1 121 d.enc.toArray.toList :: dueRow p A c l F) (.tuple #[.int .i64 (bsN (ordD · d) l), .bool (bsB (ordD · d) l)]) := fun g1 =>
      bsearchDue W _ A _ c l rfl (hr g1) _ ⟨d, rfl⟩ _ [] (ordD · d) (fun x _ => (due_order W x d).mono (by simp)) hmono (by omega)
    have hle := bsN_le (c := (ordD · d)) (l := l)
    have hins : ∀ g1 gv, FSpec Tryz.prog W 150 [.slice A l.length c, .int .i64 (bsN (ordD · d) l), .slice (some ⟨gv, 0, none⟩) 1 1] (.own (some ⟨gv, 0, none⟩) 1 1 121 3 d.enc :: .blk g1 121 d.enc.toArray.toList :: dueRow p A c l F) _ := fun g1 gv =>
      (insertDue W (.own (some ⟨gv, 0, none⟩) 1 1 121 3 d.enc :: .blk g1 121 d.enc.toArray.toList :: .blk p 133 [.slice A l.length c] :: F) A l.length c (bsN (ordD · d) l) (l.flatMap Due.enc) gv d.enc mem0 (by omega) (by omega) (by omega)).perm (selS (selS (selS sel0)))
    repeat' (first | apply aw_seq | apply aw_region | apply aw_ret | apply aw_skip | apply es_nil | apply es_pure hT; iterate 4 exact rfl | apply aw_draw [] [] hmix; decide +kernel | apply es_callQ (hs := (hfind _)); iterate 7 exact rfl | apply es_callQ (hs := (hbs _)); iterate 7 exact rfl | apply es_buildSlice hT; (iterate 12 exact rfl); intro gv | apply es_call (hs := (hins _ _)); (iterate 7 exact rfl); rintro _ _ ⟨A', c', rfl, rfl⟩ | apply es_store hT; (iterate 6 exact rfl); exact (selS (selS (selS sel0))); (iterate 3 exact rfl); exact nle rfl | (apply es_load; (iterate 5 exact rfl); first | (apply ld_blk hT; exact rfl; exact rfl; (repeat (first | exact mcs | apply mcm )); exact rfl; exact rfl) | (apply ld_all hT; exact rfl; exact rfl; (repeat (first | exact mcs )); exact rfl)) | apply es_box; (iterate 5 exact rfl); intro _ | (apply aw_cond; exact rfl; all_goals (intro hb; (try dsimp only at hb); (try simp only [hb]); (first | replace hb := odt hb | replace hb := odf hb ); (try omega))))
    apply ret1; exact rfl
    refine ⟨dueRow p A' c' (addD l d) F, ?_, by simp [hi], A', c', rfl⟩
    have e : addD l d = insD l d := by simp [addD, hi]
    have hc : (l.flatMap Due.enc).take ((bsN (ordD · d) l) * 3) ++ d.enc ++ (l.flatMap Due.enc).drop ((bsN (ordD · d) l) * 3) = (insD l d).flatMap Due.enc := by
      rw [flat_take Due.enc_len, flat_drop Due.enc_len]; simp [insD]
    rw [e, dueRow, insD_len, ← hc]
    apply dt_cons; (repeat (first | exact sel0))
    apply dt_cons; (repeat (first | exact sel0))
    (repeat (first | exact dt_end | apply dt_skip))
  · have hd : decide (idxOf (hasD d.kind d.id) l ≥ 0) = true := by simp; omega
    repeat' (first | apply aw_seq | apply aw_region | apply aw_ret | apply es_nil | apply es_pure hT; iterate 4 exact rfl | apply es_callQ (hs := (hfind _)); iterate 7 exact rfl | (apply es_load; (iterate 5 exact rfl); first | (apply ld_blk hT; exact rfl; exact rfl; (repeat (first | exact mcs )); exact rfl; exact rfl) ) | apply es_box; (iterate 5 exact rfl); intro _ | (apply aw_cond; exact rfl; all_goals (intro hb; (try dsimp only at hb); (try simp only [hb]); (first | replace hb := odt hb | replace hb := odf hb ); (try omega))))
    apply ret1; exact rfl
    have e : addD l d = l := by simp [addD, hi]
    exact ⟨dueRow p A c l F, dt_skip dt_end, by simp [hi], A, c, by rw [e]⟩
def dropD (l : List Due) (kind id : Int) : List Due := if idxOf (hasD kind id) l < 0 then l else l.eraseIdx (idxOf (hasD kind id) l).toNat
theorem due_Drop (W : World) (F : List Chunk) (p : Nat) (A : Option Addr) (c : Nat) (l : List Due) (kind id : Int) (hb : l.length ≤ 1000000) :
    FSpec Tryz.prog W 49 [.pointer (some ⟨p, 0, none⟩), .int .i64 kind, .int .i64 id] (dueRow p A c l F) (fun v h' => v = .bool (decide (¬ idxOf (hasD kind id) l < 0)) ∧ ∃ A' c', h' = dueRow p A' c' (dropD l kind id) F) := by
  refine FSpec.dropTo ?_
  refine spec_body Tryz.func49 rfl rfl Tryz.results49 Tryz.ntmps49 rfl rfl ?_
  have hfind : QSpec Tryz.prog W 77 [.pointer (some ⟨p, 0, none⟩), .int .i64 kind, .int .i64 id] (dueRow p A c l F) (.int .i64 (idxOf (hasD kind id) l)) :=
    (due_find W p A c l kind id hb).mono (by intro c hc; simp only [dueRow, List.mem_cons, List.not_mem_nil, or_false] at hc ⊢; rcases hc with rfl | rfl <;> simp)
  have hlt := idxOf_lt (p := hasD kind id) (l := l)
  by_cases hi : idxOf (hasD kind id) l < 0
  · have hd : decide (idxOf (hasD kind id) l < 0) = true := by simp; omega
    repeat' (first | apply aw_seq | apply aw_region | apply aw_ret | apply aw_skip | apply es_nil | apply es_pure hT; iterate 4 exact rfl | apply es_callQ (hs := hfind); iterate 7 exact rfl | apply aw_condF; iterate 2 exact rfl | (apply aw_cond; exact rfl; all_goals (intro hb; (try dsimp only at hb); (try simp only [hb]); (first | replace hb := odt hb | replace hb := odf hb ); (try omega))))
    apply ret1; exact rfl
    have e : dropD l kind id = l := by simp [dropD, hi]
    exact ⟨dueRow p A c l F, dt_end, by simp [hi], A, c, by rw [e]⟩
  · have hd : decide (idxOf (hasD kind id) l < 0) = false := by simp; omega
    have hdel := (deleteDue W (.blk p 133 [.slice A l.length c] :: F) A l.length c (idxOf (hasD kind id) l) (idxOf (hasD kind id) l + 1) (l.flatMap Due.enc) (by omega) (by omega) (by omega)).perm (h' := dueRow p A c l F) (selS sel0)
    repeat' (first | apply aw_seq | apply aw_region | apply aw_ret | apply aw_skip | apply es_nil | apply es_pure hT; iterate 4 exact rfl | (apply es_i64 hT; (iterate 4 exact rfl); (iterate 2 (first | omega ))) | apply es_callQ (hs := hfind); iterate 7 exact rfl | apply es_call (hs := hdel); (iterate 7 exact rfl); rintro _ _ ⟨rfl, rfl⟩ | apply es_store hT; (iterate 6 exact rfl); exact (selS sel0); (iterate 3 exact rfl); exact nle rfl | (apply es_load; (iterate 5 exact rfl); first | (apply ld_blk hT; exact rfl; exact rfl; (repeat (first | exact mcs )); exact rfl; exact rfl) ) | apply aw_condF; iterate 2 exact rfl | (apply aw_cond; exact rfl; all_goals (intro hb; (try dsimp only at hb); (try simp only [hb]); (first | replace hb := odt hb | replace hb := odf hb ); (try omega))))
    apply ret1; exact rfl
    refine ⟨dueRow p A c (dropD l kind id) F, ?_, by simp [hi], A, c, rfl⟩
    obtain ⟨k, hk⟩ : ∃ k : Nat, idxOf (hasD kind id) l = k := ⟨(idxOf (hasD kind id) l).toNat, by omega⟩
    have e : dropD l kind id = l.take k ++ l.drop (k + 1) := by rw [dropD, if_neg hi, hk]; simp [List.eraseIdx_eq_take_drop_succ]
    have hc : (l.flatMap Due.enc).take (k * 3) ++ (l.flatMap Due.enc).drop ((k + 1) * 3) = (l.take k ++ l.drop (k + 1)).flatMap Due.enc := by
      rw [flat_take Due.enc_len, flat_drop Due.enc_len]; simp
    have hlen : (l.take k ++ l.drop (k + 1)).length = l.length - (((k : Int) + 1).toNat - (k : Int).toNat) := by simp; omega
    rw [e, dueRow, hlen, ← hc, hk]
    apply dt_cons; (repeat (first | exact sel0))
    apply dt_cons; (repeat (first | exact sel0))
    (repeat (first | exact dt_end))
def takeN (l : List Due) (tick : Int) : Nat := (l.takeWhile fun d => decide (d.tick ≤ tick)).length
theorem takeN_eq {tick : Int} : ∀ {l : List Due} {i : Nat}, i ≤ l.length → (∀ (k : Nat) y, k < i → l[k]? = some y → y.tick ≤ tick) → (∀ y, l[i]? = some y → ¬ y.tick ≤ tick) → takeN l tick = i
  | [], i, h, _, _ => by simp at h; subst h; rfl
  | x :: l, 0, _, _, h2 => by
    have := h2 x rfl
    simp [takeN, List.takeWhile_cons, this]
  | x :: l, i + 1, h, h1, h2 => by
    have h0 := h1 0 x (by omega) rfl
    have ih := takeN_eq (tick := tick) (l := l) (i := i) (by simpa using h) (fun k y hk hy => h1 (k + 1) y (by omega) (by simpa using hy)) (fun y hy => h2 y (by simpa using hy))
    unfold takeN at *
    simp [List.takeWhile_cons, h0, ih]
theorem due_Take (W : World) (F : List Chunk) (p : Nat) (A : Option Addr) (c : Nat) (l : List Due) (tick : Int) (hb : l.length ≤ 1000000) :
    FSpec Tryz.prog W 50 [.pointer (some ⟨p, 0, none⟩), .int .i64 tick] (dueRow p A c l F)
      (fun v h' => ∃ A1 c1 A2 c2, v = .slice A1 (takeN l tick) c1 ∧ h' = .own A1 (takeN l tick) c1 121 3 ((l.take (takeN l tick)).flatMap Due.enc) :: dueRow p A2 c2 (l.drop (takeN l tick)) F) := by
  refine FSpec.dropTo ?_
  refine spec_body Tryz.func50 rfl rfl Tryz.results50 Tryz.ntmps50 rfl rfl ?_
  refine aw_fact (h := dueRow p A c l F) mem1 (fun hl hnc hcc hsome hnone hone => ?_)
  have hr : Reads W (dueRow p A c l F) A l.length 3 (l.flatMap Due.enc) := Reads.own mem1 hl hone
  repeat' (first | apply aw_seq | apply aw_region | apply aw_skip | apply aw_block | apply es_nil | apply es_pure hT; iterate 4 exact rfl | apply aw_condF; iterate 2 exact rfl)
  refine aw_loop (α := Nat) (E := fun k => [(0, .pointer (some ⟨p, 0, none⟩)), (1, .int .i64 tick), (5, .int .i64 k)]) (H := fun _ => dueRow p A c l F) (μ := fun k => l.length - k)
    (S := fun k => k ≤ l.length ∧ ∀ (j : Nat) y, j < k → l[j]? = some y → y.tick ≤ tick) 0 (J := []) ⟨Nat.zero_le _, fun j y hj => by omega⟩ ⟨rfl, rfl, rfl, trivial⟩ (List.Perm.refl _) ?_
  rintro k ⟨hk1, hk2⟩
  have hclone : ∀ n : Nat, n ≤ l.length → FSpec Tryz.prog W 79 [.slice A n c] (dueRow p A c l F) _ := fun n hn => cloneDue W (dueRow p A c l F) A n c _ (hr.take hn) (by omega)
  have fin : takeN l tick = k → ∀ A1 c1 A2, DropTo (.blk p 133 [.slice A2 (l.length - k) c] :: .own A2 (l.length - k) c 121 3 ([] ++ (l.flatMap Due.enc).drop (k * 3)) :: .own A1 k c1 121 3 ((l.flatMap Due.enc).take (k * 3)) :: F)
      (.own A1 (takeN l tick) c1 121 3 ((l.take (takeN l tick)).flatMap Due.enc) :: dueRow p A2 c (l.drop (takeN l tick)) F) := fun hkk A1 c1 A2 => by
    rw [hkk, dueRow, List.length_drop, List.nil_append, flat_take Due.enc_len, flat_drop Due.enc_len]
    apply dt_cons; (repeat (first | exact sel0 | apply selS))
    apply dt_cons; (repeat (first | exact sel0))
    apply dt_cons; (repeat (first | exact sel0))
    exact dt_end
  have hdel : ∀ A1 c1, FSpec Tryz.prog W 78 _ (.own A1 (k : Int).toNat c1 121 3 ((l.flatMap Due.enc).take ((k : Int).toNat * 3)) :: dueRow p A c l F) _ := fun A1 c1 =>
    (deleteDue W (.own A1 (k : Int).toNat c1 121 3 ((l.flatMap Due.enc).take ((k : Int).toNat * 3)) :: .blk p 133 [.slice A l.length c] :: F) A l.length c 0 k (l.flatMap Due.enc) (by omega) (by omega) (by omega)).perm (selS (selS sel0))
  by_cases hlt : k < l.length
  · obtain ⟨x, hx⟩ : ∃ x, l[k]? = some x := ⟨l[k]'(by omega), List.getElem?_eq_getElem (by omega)⟩
    have hx2 : l[(k : Int).toNat]? = some x := by simpa using hx
    obtain ⟨g, hg⟩ := hsome (by omega)
    have hA : A.isSome = true := by rw [hg]; rfl
    have hd : decide ((k : Int) < (l.length : Int)) = true := by simp; omega
    by_cases hx0 : x.tick ≤ tick
    · have hd2 : decide (x.tick ≤ tick) = true := by simpa using hx0
      repeat' (first | apply aw_seq | apply aw_region | apply aw_skip | apply aw_block | apply es_nil | apply es_pure hT; iterate 4 exact rfl | (apply es_i64 hT; (iterate 4 exact rfl); (iterate 2 (first | omega ))) | apply es_idx hT; (iterate 8 exact rfl); (iterate 2 omega); exact hA | (apply es_load; (iterate 5 exact rfl); exact ld_fld hT rfl rfl hr Due.enc_len (adr_add _ _ _) hx2 (by decide) rfl) | (apply es_load; (iterate 5 exact rfl); first | (apply ld_blk hT; exact rfl; exact rfl; (repeat (first | exact mcs )); exact rfl; exact rfl) ) | (apply es_case; exact rfl; all_goals (intro hb; (fail_if_success (change true = true at hb)); (fail_if_success (change false = false at hb)); (try dsimp only at hb); (try simp only [hb]); (first | replace hb := odt hb | replace hb := odf hb ); (try omega))) | (apply aw_cond; exact rfl; all_goals (intro hb; (try dsimp only at hb); (try simp only [hb]); (first | replace hb := odt hb | replace hb := odf hb ); (try omega))))
      exact ⟨k + 1, [], by dsimp only; omega, ⟨by omega, fun j y hj hy => by
        by_cases hjk : j = k
        · subst hjk; rw [hx] at hy; cases hy; exact hx0
        · exact hk2 j y (by omega) hy⟩, ⟨rfl, rfl, rfl, trivial⟩, List.Perm.refl _⟩
    · have hd2 : decide (x.tick ≤ tick) = false := by simpa using hx0
      repeat' (first | apply aw_seq | apply aw_region | apply aw_ret | apply aw_exit | apply es_nil | apply es_pure hT; iterate 4 exact rfl | apply es_idx hT; (iterate 8 exact rfl); (iterate 2 omega); exact hA | (apply es_load; (iterate 5 exact rfl); exact ld_fld hT rfl rfl hr Due.enc_len (adr_add _ _ _) hx2 (by decide) rfl) | apply es_sliceTo hT; (iterate 8 exact rfl); (iterate 2 omega) | (apply es_call (hs := (hclone _ (by omega))); (iterate 7 exact rfl); rintro _ _ ⟨A1, c1, rfl, rfl⟩) | apply es_call (hs := (hdel _ _)); (iterate 7 exact rfl); rintro _ _ ⟨rfl, rfl⟩ | apply es_store hT; (iterate 6 exact rfl); exact (selS (selS sel0)); (iterate 3 exact rfl); exact nle rfl | (apply es_load; (iterate 5 exact rfl); first | (apply ld_blk hT; exact rfl; exact rfl; (repeat (first | exact mcs | apply mcm )); exact rfl; exact rfl) ) | (apply es_case; exact rfl; all_goals (intro hb; (fail_if_success (change true = true at hb)); (fail_if_success (change false = false at hb)); (try dsimp only at hb); (try simp only [hb]); (first | replace hb := odt hb | replace hb := odf hb ); (try omega))) | (apply aw_cond; exact rfl; all_goals (intro hb; (try dsimp only at hb); (try simp only [hb]); (first | replace hb := odt hb | replace hb := odf hb ); (try omega))))
      have hkk : takeN l tick = k := takeN_eq hk1 hk2 (fun y hy => by rw [hx] at hy; cases hy; exact hx0)
      have hval : Value.slice A1 ((k : Int).toNat) c1 = .slice A1 (takeN l tick) c1 := by rw [hkk]; simp
      apply ret1; exact rfl
      refine ⟨_, fin hkk A1 c1 A, A1, c1, A, c, ?_, rfl⟩
      exact hval
  · have hd : decide ((k : Int) < (l.length : Int)) = false := by simp; omega
    repeat' (first | apply aw_seq | apply aw_region | apply aw_ret | apply aw_exit | apply es_nil | apply es_pure hT; iterate 4 exact rfl | apply es_skip; iterate 3 exact rfl | apply es_sliceTo hT; (iterate 8 exact rfl); (iterate 2 omega) | (apply es_call (hs := (hclone _ (by omega))); (iterate 7 exact rfl); rintro _ _ ⟨A1, c1, rfl, rfl⟩) | apply es_call (hs := (hdel _ _)); (iterate 7 exact rfl); rintro _ _ ⟨rfl, rfl⟩ | apply es_store hT; (iterate 6 exact rfl); exact (selS (selS sel0)); (iterate 3 exact rfl); exact nle rfl | (apply es_load; (iterate 5 exact rfl); first | (apply ld_blk hT; exact rfl; exact rfl; (repeat (first | exact mcs | apply mcm )); exact rfl; exact rfl) ) | apply aw_condF; iterate 2 exact rfl | (apply es_case; exact rfl; all_goals (intro hb; (fail_if_success (change true = true at hb)); (fail_if_success (change false = false at hb)); (try dsimp only at hb); (try simp only [hb]); (first | replace hb := odt hb | replace hb := odf hb ); (try omega))))
    have hkk : takeN l tick = k := takeN_eq hk1 hk2 (fun y hy => by rw [List.getElem?_eq_none (by omega)] at hy; cases hy)
    have hval : Value.slice A1 ((k : Int).toNat) c1 = .slice A1 (takeN l tick) c1 := by rw [hkk]; simp
    apply ret1; exact rfl
    refine ⟨_, fin hkk A1 c1 A, A1, c1, A, c, ?_, rfl⟩
    exact hval
theorem due_TakeF (W : World) (F : List Chunk) (p : Nat) (A : Option Addr) (c : Nat) (l : List Due) (tick : Int) (hb : l.length ≤ 1000000) :
    FSpec Tryz.prog W 50 [.pointer (some ⟨p, 0, none⟩), .int .i64 tick] (dueRow p A c l F)
      (fun v h' => ∃ A1 c1 A2 c2, v = .slice A1 (takeN l tick) c1 ∧ h' = .own A1 (takeN l tick) c1 121 3 ((l.take (takeN l tick)).flatMap Due.enc) :: dueRow p A2 c2 (l.drop (takeN l tick)) F ∧ OwnF A1 (takeN l tick) c1 3 ((l.take (takeN l tick)).flatMap Due.enc)) :=
  (due_Take W F p A c l tick hb).conv (by
    rintro v h' ⟨A1, c1, A2, c2, rfl, rfl⟩ w hw
    exact ⟨_, hw, A1, c1, A2, c2, rfl, rfl, hw.ownF mem0⟩)
end Go.Proofs.YtakilgkpfjhfdaaGreat

namespace Go.Proofs.YtakilgkpfjhfdaaGreat
open Go Go.Sl
/-! ### a place -/
structure Rs where
  d : Dk
  id : Int
  outs : List OutR
  err : Int
def bad (d : Dk) (e : Int) : Rs := ⟨d, 0, [], e⟩
/-! ### trades -/
def tradeOf (d : Dk) (s who other bond price qty ask : Int) : TradeR :=
  if s = 2 then ⟨d.trades.length + 1, bond, other, who, price, qty, ask, d.now⟩ else ⟨d.trades.length + 1, bond, who, other, price, qty, ask, d.now⟩
def tradeD (d : Dk) (t : TradeR) : Dk :=
  { d with cash := (putP ⟨d.cash, d.pos⟩ t).cash, pos := (putP ⟨d.cash, d.pos⟩ t).pos, trades := d.trades ++ [t], head := (chainN d.head.toNat (bytesT t) : Nat) }
/-! ### orders -/
def isBondN (d : Dk) (n : Int) : Bool := decide (0 ≤ n) && decide (n < d.books.length)
def bondOf (d : Dk) (n : Int) : BondR := (at0 d.bonds n).getD ⟨1, 1, 1, 1, 1, 1, true⟩
def bookAt (d : Dk) (n : Nat) : List Order := d.books.getD n []
structure FSt where
  d : Dk
  outs : List OutR
  rest : Int
def fillD (who : Int) (o : Order) (n : Nat) (s : FSt) (f : FillR) : FSt :=
  let rest := s.rest - f.qty
  let t := tradeOf s.d o.side who f.mparty n f.price f.qty 0
  ⟨tradeD s.d t, s.outs ++ [outM f.mparty 20 [f.maker, f.price, f.qty, f.left], outM who 20 [o.id, f.price, f.qty, rest]] ++ confO t, rest⟩
def meetsD (d : Dk) (who : Int) (n : Nat) (o : Order) (how : Int) : Rs :=
  let v := doV how { o with seq := d.seq + 1 } (bookAt d n)
  if v.err ≠ 0 then bad d v.err else
  let s := v.fills.foldl (fillD who o n) ⟨{ d with seq := d.seq + 1, books := d.books.set n v.bk }, v.gones.map fun g => outM who 21 [g.id, g.left], o.left⟩
  ⟨s.d, 0, if how ≠ 0 ∧ how ≠ 3 ∧ v.left > 0 then s.outs ++ [outM who 21 [o.id, v.left]] else s.outs, 0⟩
def comesD (d : Dk) (who : Int) (m : MsgR) : Rs :=
  if isBondN d m.f0 = false then bad d 4 else if isB m.f1 = false ∨ m.f4 < 0 ∨ m.f4 > 4 then bad d 1 else
  let e := fitsE (bondOf d m.f0) m.f4 m.f2 m.f3
  if e ≠ 0 then bad d e else
  let r := meetsD d who m.f0.toNat ⟨d.order + 1, 0, who, m.f1, m.f2, m.f3⟩ m.f4
  if r.err = 0 then { r with d := { r.d with order := r.d.order + 1 }, id := r.d.order + 1 } else r
def findB (bs : List (List Order)) (id : Int) : Int := idxOf (fun l => (getO id l).isSome) bs
def changesD (d : Dk) (who kind id price qty : Int) : Rs :=
  let n := findB d.books id
  if n < 0 then bad d 4 else
  match getO id (bookAt d n.toNat) with
  | none => bad d 4
  | some o =>
    if o.owner ≠ who then bad d 5
    else if kind = 8 then
      (if checkE (bondOf d n) price qty ≠ 0 then bad d (checkE (bondOf d n) price qty)
      else if price = o.price ∧ qty ≤ o.left then ⟨{ d with books := d.books.set n.toNat (lessO o.id qty (bookAt d n.toNat)) }, id, [], lessE o.id qty (bookAt d n.toNat)⟩
      else { meetsD { d with books := d.books.set n.toNat (dropO o.id (bookAt d n.toNat)) } who n.toNat { o with price := price, left := qty } 0 with id := id })
    else ⟨{ d with books := d.books.set n.toNat (dropO id (bookAt d n.toNat)) }, id, [outM who 21 [id, o.left]], 0⟩
/-! ### requests -/
def isWin (n : Int) : Bool := inB n 1 1000
def askD (d : Dk) (who : Int) (m : MsgR) : Rs :=
  let dealers := m.f3 % 18446744073709551616
  if isBondN d m.f0 = false then bad d 4 else if isB m.f1 = false then bad d 1 else if (bondOf d m.f0).halted then bad d 6
  else if qtyE (bondOf d m.f0) m.f2 ≠ 0 then bad d (qtyE (bondOf d m.f0) m.f2) else if reachE d.parties who dealers ≠ 0 then bad d (reachE d.parties who dealers)
  else if isWin m.f4 = false then bad d 1 else
  let a : AskR := ⟨d.ask + 1, who, m.f0, m.f1, m.f2, dealers, d.now + m.f4, 0, 1, 0⟩
  if addE a d.asks ≠ 0 then bad d (addE a d.asks) else
  ⟨{ d with asks := addA a d.asks, ask := d.ask + 1, due := addD d.due ⟨a.ends, 1, a.id⟩ }, d.ask + 1,
    (List.range d.parties.length).filterMap fun (i : Nat) => if bit64 dealers i then some (outM i 22 [a.id, m.f0, m.f1, m.f2, a.ends]) else none, 0⟩
def quoteD (rf : Bool) (d : Dk) (who : Int) (m : MsgR) : Rs :=
  match getA m.f0 d.asks with
  | none => bad d 4
  | some a =>
    if bit64 a.dealers who = false then bad d 5 else if a.state ≠ 1 then bad d 11 else if (bondOf d a.bond).halted then bad d 6
    else if priceE (bondOf d a.bond) m.f1 ≠ 0 then bad d (priceE (bondOf d a.bond) m.f1) else if isWin m.f2 = false then bad d 1 else
    let q : Quote := ⟨d.quote + 1, a.id, who, m.f1, d.now + m.f2, true⟩
    if badQ q d.quotes then bad d 1 else
    ⟨{ d with quotes := putQ q d.quotes, quote := d.quote + 1, due := addD (if rf then dropD d.due 3 (oldQ q d.quotes) else d.due) ⟨q.expires, 3, q.id⟩ }, d.quote + 1,
      [outM a.client 23 [a.id, q.id, m.f1, q.expires]], 0⟩
def isLooked (d : Dk) (q : Quote) : Bool := match getA q.ask d.asks with
  | none => false
  | some a => a.state == 2 && a.hit == q.id
def pullD (rf : Bool) (d : Dk) (who id : Int) : Rs :=
  match getQ id d.quotes with
  | none => bad d 4
  | some q => if q.dealer ≠ who then bad d 5 else if isLooked d q then bad d 11 else
    if pullE id who d.quotes ≠ 0 then bad d (pullE id who d.quotes) else
    ⟨{ d with quotes := pullQ id who d.quotes, due := if rf then dropD d.due 3 id else d.due }, id, [], 0⟩
def mineE (d : Dk) (who id : Int) : Int := match getA id d.asks with
  | none => 4
  | some a => if a.client ≠ who then 5 else if a.state ≠ 1 then 11 else 0
def tradingE (d : Dk) (a : AskR) (q : Quote) : Int := if (bondOf d a.bond).halted then 6 else checkV a.side q.price a.qty (bookAt d a.bond.toNat)
def hitQ (d : Dk) (a : AskR) (q : Quote) : Rs :=
  if q.live = false ∨ q.expires ≤ d.now then bad d 12 else if tradingE d a q ≠ 0 then bad d (tradingE d a q)
  else if riskE d.parties d.used q.dealer q.price a.qty ≠ 0 then bad d (riskE d.parties d.used q.dealer q.price a.qty)
  else if lookE a.id q.id (d.now + d.look) d.asks ≠ 0 then bad d (lookE a.id q.id (d.now + d.look) d.asks) else
  ⟨{ d with asks := lookA a.id q.id (d.now + d.look) d.asks, due := addD d.due ⟨d.now + d.look, 2, a.id⟩ }, a.id, [outM q.dealer 24 [a.id, q.id, d.now + d.look]], 0⟩
def hitD (d : Dk) (who id : Int) : Rs :=
  match getQ id d.quotes with
  | none => bad d 4
  | some q => if mineE d who q.ask ≠ 0 then bad d (mineE d who q.ask) else match getA q.ask d.asks with
    | none => bad d 4
    | some a => hitQ d a q
def bestD (d : Dk) (who id : Int) : Rs :=
  if mineE d who id ≠ 0 then bad d (mineE d who id) else match getA id d.asks with
  | none => bad d 4
  | some a => match bestV a.side (d.quotes.filter (isLive a.id d.now)) with
    | none => bad d 12
    | some q => hitQ d a q
def clearD (d : Dk) (id : Int) : Dk :=
  { d with quotes := d.quotes.filter fun q => !isAsk id q, due := dropD (dropD ((d.quotes.filter (isAsk id)).foldl (fun l q => dropD l 3 q.id) d.due) 1 id) 2 id }
def diesD (d : Dk) (a : AskR) : Dk := clearD { d with asks := endA a.id 4 d.asks } a.id
def deadO (a : AskR) : List OutR := [outM a.client 27 [a.id]]
def lookEndsD (rf : Bool) (d : Dk) (a : AskR) : Dk × List OutR :=
  let d1 := { d with quotes := killQ a.hit d.quotes, due := if rf then dropD (dropD d.due 3 a.hit) 2 a.id else d.due }
  if d.now ≥ a.ends then (diesD d1 a, deadO a) else ({ d1 with asks := backA a.id d.asks }, [outM a.client 25 [a.id, a.hit]])
def qOf (d : Dk) (id : Int) : Quote := (getQ id d.quotes).getD ⟨0, 0, 0, 0, 0, false⟩
def looksD (rf : Bool) (d : Dk) (who kind id : Int) : Rs :=
  match getA id d.asks with
  | none => bad d 4
  | some a => if a.state ≠ 2 then bad d 11 else
    let q := qOf d a.hit
    if q.dealer ≠ who then bad d 5 else if kind = 15 then
      (let r := lookEndsD rf { d with due := dropD d.due 2 a.id } a
      ⟨r.1, a.id, r.2, 0⟩)
    else if tradingE d a q ≠ 0 then bad d (tradingE d a q)
    else if riskE d.parties d.used q.dealer q.price a.qty ≠ 0 then bad d (riskE d.parties d.used q.dealer q.price a.qty) else
    let d1 := clearD { d with used := d.used.set q.dealer.toNat (usedV d.used q.dealer + q.price * a.qty), asks := endA a.id 3 d.asks } a.id
    let t := tradeOf d1 a.side a.client q.dealer a.bond q.price a.qty a.id
    ⟨tradeD d1 t, a.id, outM a.client 26 [a.id, q.price] :: confO t, 0⟩
def dropAskD (d : Dk) (who id : Int) : Rs :=
  if mineE d who id ≠ 0 then bad d (mineE d who id) else match getA id d.asks with
  | none => bad d 4
  | some a => ⟨diesD d a, id, deadO a, 0⟩
def haltD (d : Dk) (n is : Int) : Rs :=
  if isBondN d n = false then bad d 4 else if is ≠ 0 ∧ is ≠ 1 then bad d 1 else ⟨{ d with bonds := d.bonds.set n.toNat { bondOf d n with halted := is == 1 } }, n, [], 0⟩
/-! ### what is asked, ticks, who is gone -/
def doesD (rf : Bool) (d : Dk) (who : Int) (m : MsgR) : Rs :=
  if askedV m.kind = false ∨ isMsg m = false ∨ mayV d.parties who m.kind = false then bad d 5
  else if m.kind = 6 then comesD d who m else if m.kind = 7 ∨ m.kind = 8 then changesD d who m.kind m.f0 m.f1 m.f2
  else if m.kind = 10 then quoteD rf d who m else if m.kind = 11 then pullD rf d who m.f0 else if m.kind = 12 then hitD d who m.f0 else if m.kind = 13 then bestD d who m.f0
  else if m.kind = 14 ∨ m.kind = 15 then looksD rf d who m.kind m.f0 else if m.kind = 16 then dropAskD d who m.f0 else if m.kind = 9 then askD d who m else haltD d m.f0 m.f1
def doD (rf : Bool) (d : Dk) (who seq : Int) (m : MsgR) : Dk × List OutR :=
  let r := doesD rf d who m
  (r.d, if r.err ≠ 0 then [outM who 19 [seq, r.err]] else outM who 18 [seq, r.id] :: r.outs)
def dueD (rf : Bool) (s : Dk × List OutR) (x : Due) : Dk × List OutR :=
  if x.kind = 3 then ({ s.1 with quotes := killQ x.id s.1.quotes }, s.2)
  else match getA x.id s.1.asks with
  | none => s
  | some a => if x.kind = 2 ∧ a.state = 2 then (let r := lookEndsD rf s.1 a; (r.1, s.2 ++ r.2)) else if x.kind = 1 ∧ a.state = 1 then (diesD s.1 a, s.2 ++ deadO a) else s
def tickD (rf : Bool) (d : Dk) : Dk × List OutR :=
  (d.due.take (takeN d.due (d.now + 1))).foldl (dueD rf) ({ d with now := d.now + 1, due := d.due.drop (takeN d.due (d.now + 1)) }, [])
end Go.Proofs.YtakilgkpfjhfdaaGreat

namespace Go.Proofs.YtakilgkpfjhfdaaGreat
open Go Go.Sl
theorem idx_tw {α : Type} {p : α → Bool} : ∀ {l : List α}, (idxOf (fun x => !p x) l < 0 → l.takeWhile p = l) ∧ (∀ i : Nat, idxOf (fun x => !p x) l = i → l.takeWhile p = l.take i ∧ i ≤ l.length)
  | [] => ⟨fun _ => rfl, fun i h => by simp [idxOf] at h⟩
  | x :: l => by
    obtain ⟨h1, h2⟩ := idx_tw (p := p) (l := l)
    cases hp : p x
    · refine ⟨fun h => ?_, fun i h => ?_⟩
      · simp [idxOf, hp] at h
      · simp [idxOf, hp] at h
        obtain rfl : i = 0 := by omega
        simp [List.takeWhile_cons, hp]
    · refine ⟨fun h => ?_, fun i h => ?_⟩
      · have : idxOf (fun x => !p x) l < 0 := by
          simp only [idxOf, hp, Bool.not_true, Bool.false_eq_true, if_false] at h
          split at h
          · assumption
          · omega
        rw [List.takeWhile_cons, hp, if_pos rfl, h1 this]
      · simp only [idxOf, hp, Bool.not_true, Bool.false_eq_true, if_false] at h
        split at h
        · omega
        · obtain ⟨j, rfl⟩ : ∃ j, i = j + 1 := ⟨i - 1, by omega⟩
          obtain ⟨k1, k2⟩ := h2 j (by omega)
          rw [List.takeWhile_cons, hp, if_pos rfl, k1]
          exact ⟨rfl, by simp; omega⟩
theorem shrink_own {W w : World} {h : List Chunk} {A : Option Addr} {n c k m : Nat} {e : TypeId} {cs : List Value} (hw : Rep W (.own A n c e k cs :: h) w) (hm : m ≤ n) : Rep W (.own A m c e k (cs.take (m * k)) :: h) w := by
  have ho := hw.ownF mem0
  rcases Nat.eq_zero_or_pos n with h0 | h0
  · subst h0
    obtain rfl : m = 0 := by omega
    have : cs = [] := List.eq_nil_of_length_eq_zero (by rw [ho.len]; simp)
    subst this; simpa using hw
  · obtain ⟨g, rfl⟩ := ho.at_ h0
    obtain ⟨cur, h1, h2, h3, h4, h5, h6, h7⟩ := hw.open_
    have hmk : m * k ≤ n * k := Nat.mul_le_mul_right k hm
    refine h7.shut_ h1 ?_ ?_ (by omega) h4 (fun v hv => h6 v (List.mem_of_mem_take hv))
    · rw [← h2, List.take_take, Nat.min_eq_left hmk]
    · rw [List.length_take, h5, Nat.min_eq_left hmk]
end Go.Proofs.YtakilgkpfjhfdaaGreat

