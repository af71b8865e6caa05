/- The statement's walk, and what it stands on, joined into few texts: part 2. Conditions stand in each statement. -/
import Derived.Maps.AppendAt
import Derived.Laws.CopyOwn
import Derived.Laws.MakeOwn
import Derived.Laws.StructEq
import Derived.Deep.Quiet
import Derived.Below
import Derived.Tactics
import Derived.IntWalk
import Derived.Lib.Overlaps
import Derived.Test.YtjcnaeengplcbaaGreatRows
import Derived.OpenShut
import Derived.ChangeSame
import Derived.ProofKit
import Derived.WideKeyArgs
import Derived.Deep.Slices
import Derived.Deep.Fields
import Derived.Test.YtjcnaeengplcbaaGreatChecked
import Derived.KernelRfl
import Derived.MapKept
import Derived.Shelf.SlSortCmp.NoneTotal
import Derived.Ground.SlsfProg
import Derived.WalkKit
import Derived.Sort.Grow
import Derived.Lib.Mul64
import Derived.Laws.Bits64b
import Derived.Test.YtjcnaeengplcbaaGreatBndBooks1
set_option linter.unusedSimpArgs false
set_option linter.unusedVariables false
namespace Go.Proofs.YtjcnaeengplcbaaGreat
open Go Go.Sl
attribute [local irreducible] AW ES EP Ld RetQ
set_option maxRecDepth 100000

theorem all_idx {α : Type} {q : α → Bool} {l : List α} : decide (idxOf (fun x => !q x) l ≥ 0) = !(l.all q) := by
  by_cases h : l.all q = true
  · rw [h]
    have : idxOf (fun x => !q x) l < 0 := idxOf_neg'.2 (fun x hx => by simp [List.all_eq_true.1 h x hx])
    simp; omega
  · have : ¬ idxOf (fun x => !q x) l < 0 := fun hn => h (List.all_eq_true.2 (fun x hx => by simpa using idxOf_neg'.1 hn x hx))
    rw [decide_eq_true (by omega), Bool.eq_false_iff.2 h]; rfl
def rulesV (AB : Option Addr) (nb cB : Nat) (AP : Option Addr) (np cP : Nat) (look beat : Int) : Value := .agg #[.slice AB nb cB, .slice AP np cP, .int .i64 look, .int .i64 beat]
theorem firm_Is (W : World) (h : List Chunk) (AB : Option Addr) (cB : Nat) (bs : List BondR) (AP : Option Addr) (cP : Nat) (ps : List PartyR) (look beat : Int) (hrB : Reads W h AB bs.length 7 (bs.flatMap BondR.enc)) (hrP : Reads W h AP ps.length 3 (ps.flatMap PartyR.enc)) (hb : bs.length ≤ 1000000) (hp : ps.length ≤ 1000000) :
    QSpec Tryz.prog W 130 [rulesV AB bs.length cB AP ps.length cP look beat] h (.bool (isR bs ps look beat)) := by
  refine QSpec.ofD (fun h' hs => ?_)
  have hcb : ∀ k, (∀ c ∈ h', c ∈ k) → QSpec Tryz.prog W 207 [.slice AB bs.length cB, .func (.func 202) #[] #[]] k (.bool (!bs.all isBond)) := fun k hk =>
    (containsFuncBondR W k AB bs.length cB bs rfl ((hrB.mono hs).mono hk) 202 [] (fun x => !isBond x) (fun x _ => (firm_Is1 W x).mono (by simp)) (by omega)).cast (by rw [all_idx])
  have hcp : ∀ g k, (∀ c ∈ h', c ∈ k) → Chunk.blk g 104 [.int .u64 (maskTo ps ps.length)] ∈ k → QSpec Tryz.prog W 208 [.slice AP ps.length cP, .func (.func 205) #[] #[.pointer (some ⟨g, 0, none⟩)]] k (.bool (!ps.all (fun p => isParty p (maskTo ps ps.length)))) := fun g k hk hm =>
    (containsFuncPartyR W k AP ps.length cP ps rfl ((hrP.mono hs).mono hk) 205 [.pointer (some ⟨g, 0, none⟩)] (fun x => !isParty x (maskTo ps ps.length)) (fun x _ => (firm_Is2 W x _ g).mono (by simpa using hm)) (by omega)).cast (by rw [all_idx])
  have hdl := fun k hk (hl : ps.length ≤ 8) => firm_dealers W k AP cP ps ((hrP.mono hs).mono hk) hl
  generalize ha : bs.all isBond = a at hcb
  generalize hbb : (ps.all fun p => isParty p (maskTo ps ps.length)) = b at hcp
  refine spec_body Tryz.func130 rfl rfl Tryz.results130 Tryz.ntmps130 rfl rfl ?_
  repeat' (first
    | apply aw_seq | apply aw_region | apply aw_ret | apply aw_skip | apply aw_exit | apply aw_block | apply es_nil
    | (apply es_pure hT; (iterate 4 exact rfl)) | (apply es_skip; (iterate 3 exact rfl)) | (apply es_skip0; (iterate 2 exact rfl))
    | (apply es_i64 hT; (iterate 4 exact rfl); (iterate 2 (first | omega | (dsimp only; omega))))
    | (apply aw_draw [] [] hmix; decide +kernel)
    | (apply es_callQ (hs := ((firm_in W _ _ _).mono (by simp))); (iterate 7 exact rfl))
    | (apply es_callQ (hs := (hdl _ (by (first | exact fun _ h => h | exact fun _ h => .tail _ h | exact fun _ h => .tail _ (.tail _ h) | exact fun _ h => .tail _ (.tail _ (.tail _ h)) | exact fun _ h => .tail _ (.tail _ (.tail _ (.tail _ h))))) (by have := inB_t (show inB (ps.length : Int) 1 8 = true by simpa using ‹(!inB (ps.length : Int) 1 8) = false›); omega))); (iterate 7 exact rfl))
    | (apply es_alloc hT; (iterate 5 exact rfl); first | ((fail_if_success (have q := g4)); intro g4) | intro _)
    | (apply es_store hT; (iterate 6 exact rfl); (repeat (first | exact sel0 | apply selS)); (iterate 3 exact rfl); exact Nat.le_of_ble_eq_true rfl)
    | (apply es_callQ (hs := (hcb _ (by (first | exact fun _ h => h | exact fun _ h => .tail _ h | exact fun _ h => .tail _ (.tail _ h) | exact fun _ h => .tail _ (.tail _ (.tail _ h)) | exact fun _ h => .tail _ (.tail _ (.tail _ (.tail _ h))))))); (iterate 7 exact rfl))
    | (apply es_callQ (hs := (hcp g4 _ (by (first | exact fun _ h => h | exact fun _ h => .tail _ h | exact fun _ h => .tail _ (.tail _ h) | exact fun _ h => .tail _ (.tail _ (.tail _ h)) | exact fun _ h => .tail _ (.tail _ (.tail _ (.tail _ h))))) (by (repeat (first | exact List.mem_cons_self | apply List.mem_cons_of_mem))))); (iterate 7 exact rfl))
    | (apply es_load; (iterate 5 exact rfl); first | (apply ld_blk hT; exact rfl; exact rfl; (repeat (first | exact List.mem_cons_self | apply List.mem_cons_of_mem)); exact rfl; exact rfl) | (apply ld_all hT; exact rfl; exact rfl; (repeat (first | exact List.mem_cons_self | apply List.mem_cons_of_mem)); exact rfl))
    | (apply es_box; (iterate 5 exact rfl); intro _) | (apply es_alloc hT; (iterate 5 exact rfl); intro _)
    | (apply aw_condT; (iterate 2 exact rfl)) | (apply aw_condF; (iterate 2 exact rfl))
    | (apply es_case; exact rfl; all_goals intro hb; all_goals (fail_if_success (change true = true at hb)); all_goals (fail_if_success (change false = false at hb)); all_goals (try dsimp only at hb); all_goals (try simp only [hb]); all_goals (first | replace hb := of_decide_eq_true hb | replace hb := of_decide_eq_false hb | replace hb := bne_t hb | replace hb := bne_f hb | replace hb := eq_of_beq hb | replace hb := ne_of_beq_false hb | skip); all_goals (try (exfalso; omega)))
    | (apply aw_cond; exact rfl; all_goals intro hb; all_goals (try dsimp only at hb); all_goals (try simp only [hb]); all_goals (first | replace hb := of_decide_eq_true hb | replace hb := of_decide_eq_false hb | replace hb := bne_t hb | replace hb := bne_f hb | replace hb := eq_of_beq hb | replace hb := ne_of_beq_false hb | skip); all_goals (try (exfalso; omega))))
  all_goals first
    | (apply ret1; exact rfl; exact ⟨by unfold isR; rw [ha, hbb]; clear ha hbb hcb hcp hdl hrB hrP; simp_all, by (repeat (first | exact dt_end | (apply dt_cons; · (repeat (first | exact sel0 | apply selS))) | apply dt_skip))⟩)
    | skip
def firmTab (p : Nat) (A : Option Addr) (c : Nat) (U : Option Addr) (u : Nat) (ps : List PartyR) (used : List Int) (F : List Chunk) : List Chunk :=
  .blk p 228 [.slice A ps.length c, .slice U ps.length u] :: .own A ps.length c 165 3 (ps.flatMap PartyR.enc) :: .own U ps.length u 2 1 (used.map (Value.int .i64)) :: F
theorem firm_New (W : World) (h : List Chunk) (AB : Option Addr) (cB : Nat) (bs : List BondR) (AP : Option Addr) (cP : Nat) (ps : List PartyR) (look beat : Int) (hrB : Reads W h AB bs.length 7 (bs.flatMap BondR.enc)) (hrP : Reads W h AP ps.length 3 (ps.flatMap PartyR.enc)) (hb : bs.length ≤ 1000000) (hp : ps.length ≤ 1000000) :
    FSpec Tryz.prog W 94 [rulesV AB bs.length cB AP ps.length cP look beat] h
      (fun v h' => (isR bs ps look beat = false ∧ v = .pointer none ∧ h' = h) ∨ (isR bs ps look beat = true ∧ ∃ p A c U u, v = .pointer (some ⟨p, 0, none⟩) ∧ h' = firmTab p A c U u ps (List.replicate ps.length 0) h)) := by
  refine FSpec.dropTo ?_
  have hI := firm_Is W h AB cB bs AP cP ps look beat hrB hrP hb hp
  have hcl := fun k (hk : ∀ c ∈ h, c ∈ k) => clonePartyR W k AP ps.length cP (ps.flatMap PartyR.enc) (hrP.mono hk) (by omega)
  refine spec_body Tryz.func94 rfl rfl Tryz.results94 Tryz.ntmps94 rfl rfl ?_
  cases hR : isR bs ps look beat
  · rw [hR] at hI
    repeat' (first
      | apply aw_seq | apply aw_region | apply aw_ret | apply aw_skip | apply aw_exit | apply aw_block | apply es_nil
      | (apply es_pure hT; (iterate 4 exact rfl)) | (apply es_skip; (iterate 3 exact rfl)) | (apply es_skip0; (iterate 2 exact rfl))
      | (apply es_i64 hT; (iterate 4 exact rfl); (iterate 2 (first | omega | (dsimp only; omega))))
      | (apply aw_draw [] [] hmix; decide +kernel)
      | (apply es_callQ (hs := (hI.mono (by (first | exact fun _ h => h | exact fun _ h => .tail _ h | exact fun _ h => .tail _ (.tail _ h) | exact fun _ h => .tail _ (.tail _ (.tail _ h)) | exact fun _ h => .tail _ (.tail _ (.tail _ (.tail _ h))))))); (iterate 7 exact rfl))
      | (apply es_load; (iterate 5 exact rfl); first | (apply ld_blk hT; exact rfl; exact rfl; (repeat (first | exact List.mem_cons_self | apply List.mem_cons_of_mem)); exact rfl; exact rfl) | (apply ld_all hT; exact rfl; exact rfl; (repeat (first | exact List.mem_cons_self | apply List.mem_cons_of_mem)); exact rfl))
      | (apply es_box; (iterate 5 exact rfl); intro _) | (apply es_alloc hT; (iterate 5 exact rfl); intro _)
      | (apply aw_condT; (iterate 2 exact rfl)) | (apply aw_condF; (iterate 2 exact rfl))
      | (apply es_case; exact rfl; all_goals intro hb; all_goals (fail_if_success (change true = true at hb)); all_goals (fail_if_success (change false = false at hb)); all_goals (try dsimp only at hb); all_goals (try simp only [hb]); all_goals (first | replace hb := of_decide_eq_true hb | replace hb := of_decide_eq_false hb | replace hb := bne_t hb | replace hb := bne_f hb | replace hb := eq_of_beq hb | replace hb := ne_of_beq_false hb | skip); all_goals (try (exfalso; omega)))
      | (apply aw_cond; exact rfl; all_goals intro hb; all_goals (try dsimp only at hb); all_goals (try simp only [hb]); all_goals (first | replace hb := of_decide_eq_true hb | replace hb := of_decide_eq_false hb | replace hb := bne_t hb | replace hb := bne_f hb | replace hb := eq_of_beq hb | replace hb := ne_of_beq_false hb | skip); all_goals (try (exfalso; omega))))
    all_goals (apply ret1; exact rfl; exact ⟨h, by (repeat (first | exact dt_end | (apply dt_cons; · (repeat (first | exact sel0 | apply selS))) | apply dt_skip)), .inl ⟨rfl, rfl, rfl⟩⟩)
  · rw [hR] at hI
    repeat' (first
      | apply aw_seq | apply aw_region | apply aw_ret | apply aw_skip | apply aw_exit | apply aw_block | apply es_nil
      | (apply es_pure hT; (iterate 4 exact rfl)) | (apply es_skip; (iterate 3 exact rfl)) | (apply es_skip0; (iterate 2 exact rfl))
      | (apply es_i64 hT; (iterate 4 exact rfl); (iterate 2 (first | omega | (dsimp only; omega))))
      | (apply aw_treeD [] [] (.step 0 <| .step 1 <| .step 3 <| .alt (.step 2 <| .step 4 <| .step 5 <| .step 6 <| .step 7 <| .step 8 <| .step 9 <| .nil) ((.step 4 <| .step 5 <| .alt (.step 2 <| .step 6 <| .step 7 <| .step 8 <| .step 9 <| .nil) ((.step 6 <| .step 2 <| .step 7 <| .step 8 <| .step 9 <| .nil))))) hmix; decide +kernel) | apply ep_nil | apply ep_alt | (apply ep_step; exact rfl)
      | (apply es_callQ (hs := (hI.mono (by (first | exact fun _ h => h | exact fun _ h => .tail _ h | exact fun _ h => .tail _ (.tail _ h) | exact fun _ h => .tail _ (.tail _ (.tail _ h)) | exact fun _ h => .tail _ (.tail _ (.tail _ (.tail _ h))))))); (iterate 7 exact rfl))
      | (apply es_call (hs := (hcl _ (by (first | exact fun _ h => h | exact fun _ h => .tail _ h | exact fun _ h => .tail _ (.tail _ h) | exact fun _ h => .tail _ (.tail _ (.tail _ h)) | exact fun _ h => .tail _ (.tail _ (.tail _ (.tail _ h))))))); (iterate 7 exact rfl); rintro _ _ ⟨A1, c1, rfl, rfl⟩)
      | (apply es_makeSlice1 hT; (iterate 12 exact rfl); (iterate 1 exact rfl); omega; exact Nat.le_of_ble_eq_true rfl; intro g12)
      | (apply es_buildS hT (cs := [.slice A1 ps.length c1, .slice (some ⟨g12, 0, none⟩) ps.length ps.length]); (iterate 4 exact rfl))
      | (apply es_box; (iterate 5 exact rfl); intro g14)
      | (apply es_load; (iterate 5 exact rfl); first | (apply ld_blk hT; exact rfl; exact rfl; (repeat (first | exact List.mem_cons_self | apply List.mem_cons_of_mem)); exact rfl; exact rfl) | (apply ld_all hT; exact rfl; exact rfl; (repeat (first | exact List.mem_cons_self | apply List.mem_cons_of_mem)); exact rfl))
      | (apply es_box; (iterate 5 exact rfl); intro _) | (apply es_alloc hT; (iterate 5 exact rfl); intro _)
      | (apply aw_condT; (iterate 2 exact rfl)) | (apply aw_condF; (iterate 2 exact rfl))
      | (apply es_case; exact rfl; all_goals intro hb; all_goals (fail_if_success (change true = true at hb)); all_goals (fail_if_success (change false = false at hb)); all_goals (try dsimp only at hb); all_goals (try simp only [hb]); all_goals (first | replace hb := of_decide_eq_true hb | replace hb := of_decide_eq_false hb | replace hb := bne_t hb | replace hb := bne_f hb | replace hb := eq_of_beq hb | replace hb := ne_of_beq_false hb | skip); all_goals (try (exfalso; omega)))
      | (apply aw_cond; exact rfl; all_goals intro hb; all_goals (try dsimp only at hb); all_goals (try simp only [hb]); all_goals (first | replace hb := of_decide_eq_true hb | replace hb := of_decide_eq_false hb | replace hb := bne_t hb | replace hb := bne_f hb | replace hb := eq_of_beq hb | replace hb := ne_of_beq_false hb | skip); all_goals (try (exfalso; omega))))
    all_goals first
      | (apply ret1; exact rfl; exact ⟨firmTab g14 A1 c1 (some ⟨g12, 0, none⟩) ps.length ps (List.replicate ps.length 0) h, by unfold firmTab; rw [List.map_replicate]; (repeat (first | exact dt_end | (apply dt_cons; · (repeat (first | exact sel0 | apply selS))) | apply dt_skip)), .inr ⟨rfl, g14, A1, c1, some ⟨g12, 0, none⟩, ps.length, rfl, rfl⟩⟩)
      | skip
end Go.Proofs.YtjcnaeengplcbaaGreat

set_option linter.unusedSimpArgs false
set_option linter.unusedVariables false
namespace Go.Proofs.YtjcnaeengplcbaaGreat
open Go Go.Sl
attribute [local irreducible] AW ES EP Ld RetQ
set_option maxRecDepth 100000

structure PRow where
  A : Option Addr
  c : Nat
  l : List Int
def PRow.ck (r : PRow) : Chunk := .own r.A r.l.length r.c 2 1 (r.l.map (Value.int .i64))
def PRow.hd (r : PRow) : Value := .slice r.A r.l.length r.c
def posTab (p : Nat) (AC : Option Addr) (cC : Nat) (AR : Option Addr) (cR : Nat) (cash : List Int) (rs : List PRow) (F : List Chunk) : List Chunk :=
  .blk p 132 [.slice AR rs.length cR, .slice AC cash.length cC] :: .own AC cash.length cC 2 1 (cash.map (Value.int .i64)) :: .own AR rs.length cR 129 1 (rs.map PRow.hd) :: (rs.map PRow.ck ++ F)
def isPosN (np nb : Int) : Bool := decide (1 ≤ np) && decide (np ≤ 8) && (decide (1 ≤ nb) && decide (nb ≤ 4))
theorem pos_New (W : World) (h : List Chunk) (np nb : Int) : FSpec Tryz.prog W 19 [.int .i64 np, .int .i64 nb] h
    (fun v h' => (isPosN np nb = false ∧ v = .pointer none ∧ h' = h) ∨ (isPosN np nb = true ∧ ∃ p AC cC AR cR rs, v = .pointer (some ⟨p, 0, none⟩) ∧ h' = posTab p AC cC AR cR (List.replicate np.toNat 0) rs h ∧ rs.map PRow.l = List.replicate np.toNat (List.replicate nb.toNat 0))) := by
  refine FSpec.dropTo ?_
  refine spec_body Tryz.func19 rfl rfl Tryz.results19 Tryz.ntmps19 rfl rfl ?_
  by_cases hin : (1 ≤ np ∧ np ≤ 8) ∧ (1 ≤ nb ∧ nb ≤ 4)
  rotate_left
  · repeat' (first
      | apply aw_seq | apply aw_region | apply aw_ret | apply aw_skip | apply aw_exit | apply aw_block | apply es_nil
      | (apply es_pure hT; (iterate 4 exact rfl)) | (apply es_skip; (iterate 3 exact rfl)) | (apply es_skip0; (iterate 2 exact rfl))
      | (apply es_i64 hT; (iterate 4 exact rfl); (iterate 2 (first | omega | (dsimp only; omega))))
      | (apply aw_draw [] [] hmix; decide +kernel)
      | (apply es_load; (iterate 5 exact rfl); first | (apply ld_blk hT; exact rfl; exact rfl; (repeat (first | exact List.mem_cons_self | apply List.mem_cons_of_mem)); exact rfl; exact rfl) | (apply ld_all hT; exact rfl; exact rfl; (repeat (first | exact List.mem_cons_self | apply List.mem_cons_of_mem)); exact rfl))
      | (apply es_box; (iterate 5 exact rfl); intro _) | (apply es_alloc hT; (iterate 5 exact rfl); intro _)
      | (apply aw_condT; (iterate 2 exact rfl)) | (apply aw_condF; (iterate 2 exact rfl))
      | (apply es_case; exact rfl; all_goals intro hb; all_goals (fail_if_success (change true = true at hb)); all_goals (fail_if_success (change false = false at hb)); all_goals (try dsimp only at hb); all_goals (try simp only [hb]); all_goals (first | replace hb := of_decide_eq_true hb | replace hb := of_decide_eq_false hb | replace hb := bne_t hb | replace hb := bne_f hb | replace hb := eq_of_beq hb | replace hb := ne_of_beq_false hb | skip); all_goals (try (exfalso; omega)))
      | (apply aw_cond; exact rfl; all_goals intro hb; all_goals (try dsimp only at hb); all_goals (try simp only [hb]); all_goals (first | replace hb := of_decide_eq_true hb | replace hb := of_decide_eq_false hb | replace hb := bne_t hb | replace hb := bne_f hb | replace hb := eq_of_beq hb | replace hb := ne_of_beq_false hb | skip); all_goals (try (exfalso; omega))))
    all_goals first
      | (exfalso; omega)
      | (apply ret1; exact rfl; exact ⟨h, by (repeat (first | exact dt_end | (apply dt_cons; · (repeat (first | exact sel0 | apply selS))) | apply dt_skip)), .inl ⟨by unfold isPosN; simp; omega, rfl, rfl⟩⟩)
      | skip
  obtain ⟨⟨n1, n2⟩, n3, n4⟩ := hin
  have hp : isPosN np nb = true := by unfold isPosN; simp; omega
  rw [hp]
  obtain ⟨n, rfl⟩ := Int.eq_ofNat_of_zero_le (show 0 ≤ np by omega)
  obtain ⟨m, rfl⟩ := Int.eq_ofNat_of_zero_le (show 0 ≤ nb by omega)
  simp only [Int.toNat_natCast]
  repeat' (first
    | apply aw_seq | apply aw_region | apply aw_ret | apply aw_skip | apply aw_exit | apply aw_block | apply es_nil
    | (apply es_pure hT; (iterate 4 exact rfl)) | (apply es_skip; (iterate 3 exact rfl)) | (apply es_skip0; (iterate 2 exact rfl))
    | (apply es_i64 hT; (iterate 4 exact rfl); (iterate 2 (first | omega | (dsimp only; omega))))
    | (apply aw_draw [] [] hmix; decide +kernel)
    | (apply es_makeSlice1 hT; (iterate 12 exact rfl); (iterate 1 exact rfl); omega; exact Nat.le_of_ble_eq_true rfl; intro g21)
    | (apply es_buildS hT (cs := [.slice none 0 0, .slice (some ⟨g21, 0, none⟩) n n]); (iterate 4 exact rfl))
    | (apply es_box; (iterate 5 exact rfl); intro g23)
    | (apply es_load; (iterate 5 exact rfl); first | (apply ld_blk hT; exact rfl; exact rfl; (repeat (first | exact List.mem_cons_self | apply List.mem_cons_of_mem)); exact rfl; exact rfl) | (apply ld_all hT; exact rfl; exact rfl; (repeat (first | exact List.mem_cons_self | apply List.mem_cons_of_mem)); exact rfl))
    | (apply es_box; (iterate 5 exact rfl); intro _) | (apply es_alloc hT; (iterate 5 exact rfl); intro _)
    | (apply aw_condT; (iterate 2 exact rfl)) | (apply aw_condF; (iterate 2 exact rfl))
    | (apply es_case; exact rfl; all_goals intro hb; all_goals (fail_if_success (change true = true at hb)); all_goals (fail_if_success (change false = false at hb)); all_goals (try dsimp only at hb); all_goals (try simp only [hb]); all_goals (first | replace hb := of_decide_eq_true hb | replace hb := of_decide_eq_false hb | replace hb := bne_t hb | replace hb := bne_f hb | replace hb := eq_of_beq hb | replace hb := ne_of_beq_false hb | skip); all_goals (try (exfalso; omega)))
    | (apply aw_cond; exact rfl; all_goals intro hb; all_goals (try dsimp only at hb); all_goals (try simp only [hb]); all_goals (first | replace hb := of_decide_eq_true hb | replace hb := of_decide_eq_false hb | replace hb := bne_t hb | replace hb := bne_f hb | replace hb := eq_of_beq hb | replace hb := ne_of_beq_false hb | skip); all_goals (try (exfalso; omega))))
  all_goals try (exfalso; omega)
  refine aw_conv (fun w hw => ⟨_, hw.own_nil 129 1, ?_⟩)
  refine aw_loopD (α := Nat × Option Addr × Nat × List PRow) (E := fun x => [(0, .int .i64 n), (1, .int .i64 m), (5, .pointer (some ⟨g23, 0, none⟩)), (24, .int .i64 n), (25, .int .i64 x.1)])
    (H := fun x => posTab g23 (some ⟨g21, 0, none⟩) n x.2.1 x.2.2.1 (List.replicate n 0) x.2.2.2 h) (μ := fun x => n - x.1)
    (S := fun x => x.1 ≤ n ∧ x.2.2.2.map PRow.l = List.replicate x.1 (List.replicate m 0)) (0, none, 0, []) ⟨Nat.zero_le _, rfl⟩ ⟨rfl, rfl, rfl, rfl, rfl, trivial⟩ (by unfold posTab; rw [List.map_replicate, List.length_replicate]; (repeat (first | exact dt_end | (apply dt_cons; · (repeat (first | exact sel0 | apply selS))) | apply dt_skip))) ?_
  rintro ⟨k, AR, cR, rs⟩ ⟨hk, hrs⟩
  dsimp only at hk hrs ⊢
  have hlen : rs.length = k := by have := congrArg List.length hrs; simpa using this
  by_cases hlt : k < n
  · have hd1 : decide ((k : Int) < (n : Int)) = true := by simp; omega
    unfold posTab
    repeat' (first
      | apply aw_seq | apply aw_region | apply aw_ret | apply aw_skip | apply aw_exit | apply aw_block | apply es_nil
      | (apply es_pure hT; (iterate 4 exact rfl)) | (apply es_skip; (iterate 3 exact rfl)) | (apply es_skip0; (iterate 2 exact rfl))
      | (apply es_i64 hT; (iterate 4 exact rfl); (iterate 2 (first | omega | (dsimp only; omega))))
      | (apply aw_treeD [] [] (.step 0 <| .step 1 <| .step 2 <| .step 3 <| .step 4 <| .step 5 <| .step 6 <| .step 7 <| .step 8 <| .step 9 <| .step 10 <| .step 11 <| .nil) hmix; decide +kernel) | apply ep_nil | apply ep_alt | (apply ep_step; exact rfl)
      | (apply es_makeSlice1 hT; (iterate 12 exact rfl); (iterate 1 exact rfl); omega; exact Nat.le_of_ble_eq_true rfl; intro g33)
      | (apply es_buildSlice hT; (iterate 12 exact rfl); intro g34)
      | (apply es_append hT; (iterate 10 exact rfl); (repeat (first | exact sel0 | apply selS)); exact Reads.own mem0 rfl (List.all_eq_true.1 rfl); omega; (show (_ : Nat) * 24 ≤ _; omega); intro A' c')
      | (apply es_store hT; (iterate 6 exact rfl); (repeat (first | exact sel0 | apply selS)); (iterate 3 exact rfl); exact Nat.le_of_ble_eq_true rfl)
      | (apply es_load; (iterate 5 exact rfl); first | (apply ld_blk hT; exact rfl; exact rfl; (repeat (first | exact List.mem_cons_self | apply List.mem_cons_of_mem)); exact rfl; exact rfl) | (apply ld_all hT; exact rfl; exact rfl; (repeat (first | exact List.mem_cons_self | apply List.mem_cons_of_mem)); exact rfl))
      | (apply es_box; (iterate 5 exact rfl); intro _) | (apply es_alloc hT; (iterate 5 exact rfl); intro _)
      | (apply aw_condT; (iterate 2 exact rfl)) | (apply aw_condF; (iterate 2 exact rfl))
      | (apply es_case; exact rfl; all_goals intro hb; all_goals (fail_if_success (change true = true at hb)); all_goals (fail_if_success (change false = false at hb)); all_goals (try dsimp only at hb); all_goals (try simp only [hb]); all_goals (first | replace hb := of_decide_eq_true hb | replace hb := of_decide_eq_false hb | replace hb := bne_t hb | replace hb := bne_f hb | replace hb := eq_of_beq hb | replace hb := ne_of_beq_false hb | skip); all_goals (try (exfalso; omega)))
      | (apply aw_cond; exact rfl; all_goals intro hb; all_goals (try dsimp only at hb); all_goals (try simp only [hb]); all_goals (first | replace hb := of_decide_eq_true hb | replace hb := of_decide_eq_false hb | replace hb := bne_t hb | replace hb := bne_f hb | replace hb := eq_of_beq hb | replace hb := ne_of_beq_false hb | skip); all_goals (try (exfalso; omega))))
    all_goals first
      | (exfalso; omega)
      | (refine loopq_end (k + 1, A', c', rs ++ [⟨some ⟨g33, 0, none⟩, m, List.replicate m 0⟩]) (by dsimp only; omega) ⟨by dsimp only; omega, by dsimp only; rw [List.map_append, hrs, List.replicate_succ']; rfl⟩ ⟨rfl, rfl, rfl, rfl, rfl, trivial⟩ ?_
         dsimp only
         rw [List.length_append, List.map_append, List.map_append, List.append_assoc]
         simp only [List.map_cons, List.map_nil, PRow.hd, PRow.ck, List.length_replicate, List.map_replicate, List.length_cons, List.length_nil, List.cons_append, List.nil_append]
         apply dt_cons; (repeat (first | exact sel0 | apply selS))
         apply dt_cons; (repeat (first | exact sel0 | apply selS))
         apply dt_cons; (repeat (first | exact sel0 | apply selS))
         refine dt_mid ?_
         (repeat (first | exact dt_end | (apply dt_cons; · (repeat (first | exact sel0 | apply selS))) | apply dt_skip)))
      | skip
  · obtain rfl : k = n := by omega
    have hd1 : decide ((k : Int) < (k : Int)) = false := by simp
    repeat' (first
      | apply aw_seq | apply aw_region | apply aw_ret | apply aw_skip | apply aw_exit | apply aw_block | apply es_nil
      | (apply es_pure hT; (iterate 4 exact rfl)) | (apply es_skip; (iterate 3 exact rfl)) | (apply es_skip0; (iterate 2 exact rfl))
      | (apply es_i64 hT; (iterate 4 exact rfl); (iterate 2 (first | omega | (dsimp only; omega))))
      | (apply aw_draw [] [] hmix; decide +kernel)
      | (apply es_load; (iterate 5 exact rfl); first | (apply ld_blk hT; exact rfl; exact rfl; (repeat (first | exact List.mem_cons_self | apply List.mem_cons_of_mem)); exact rfl; exact rfl) | (apply ld_all hT; exact rfl; exact rfl; (repeat (first | exact List.mem_cons_self | apply List.mem_cons_of_mem)); exact rfl))
      | (apply es_box; (iterate 5 exact rfl); intro _) | (apply es_alloc hT; (iterate 5 exact rfl); intro _)
      | (apply aw_condT; (iterate 2 exact rfl)) | (apply aw_condF; (iterate 2 exact rfl))
      | (apply es_case; exact rfl; all_goals intro hb; all_goals (fail_if_success (change true = true at hb)); all_goals (fail_if_success (change false = false at hb)); all_goals (try dsimp only at hb); all_goals (try simp only [hb]); all_goals (first | replace hb := of_decide_eq_true hb | replace hb := of_decide_eq_false hb | replace hb := bne_t hb | replace hb := bne_f hb | replace hb := eq_of_beq hb | replace hb := ne_of_beq_false hb | skip); all_goals (try (exfalso; omega)))
      | (apply aw_cond; exact rfl; all_goals intro hb; all_goals (try dsimp only at hb); all_goals (try simp only [hb]); all_goals (first | replace hb := of_decide_eq_true hb | replace hb := of_decide_eq_false hb | replace hb := bne_t hb | replace hb := bne_f hb | replace hb := eq_of_beq hb | replace hb := ne_of_beq_false hb | skip); all_goals (try (exfalso; omega))))
    all_goals first
      | (exfalso; omega)
      | (apply ret1; exact rfl; exact ⟨_, dt_end, .inr ⟨by trivial, g23, _, _, _, _, _, rfl, rfl, hrs⟩⟩)
end Go.Proofs.YtjcnaeengplcbaaGreat

set_option linter.unusedSimpArgs false
set_option linter.unusedVariables false
namespace Go.Sl
open Go
theorem es_bitsV {P : Program} {W : World} {N : Nat} {env : Env} {h : List Chunk} {kf : KF} {ops : Array Oper} {K : Env → List Chunk → Prop} {rest : List Oper} {b : Bool} {e f r : Int} {k : IntKind} {op : BinOp} {d : Tmp} {t yt : TypeId} {x y : Operand} {ty pos af g} (hg : evalG ops env g = some b) (hb : b = true) (hd : Nat.blt d N = true) (hop : isBits op = true) (hx : evalE env x = some (.int k e)) (hy : evalE env y = some (.int k f)) (hv : bitI op k e f = r)
    (hK : ES P W N kf ops rest ((d, .int k r) :: env) h K) : ES P W N kf ops (⟨some d, .binOp op t x y yt, ty, pos, af, g⟩ :: rest) env h K := es_bits hg hb hd hop hx hy (by rw [hv]; exact hK)
end Go.Sl
namespace Go.Proofs.YtjcnaeengplcbaaGreat
open Go Go.Sl
attribute [local irreducible] AW ES EP Ld RetQ
set_option maxRecDepth 100000

theorem quote_NewN (W : World) (h : List Chunk) : FSpec Tryz.prog W 97 [] h (fun v h' => ∃ p, v = .pointer (some ⟨p, 0, none⟩) ∧ h' = .blk p 230 [.slice none 0 0] :: h) := by
  refine spec_body Tryz.func97 rfl rfl Tryz.results97 Tryz.ntmps97 rfl rfl ?_
  repeat' (first
    | apply aw_seq | apply aw_region | apply aw_ret | apply aw_skip | apply aw_exit | apply aw_block | apply es_nil
    | (apply es_pure hT; (iterate 4 exact rfl)) | (apply es_skip; (iterate 3 exact rfl)) | (apply es_skip0; (iterate 2 exact rfl))
    | (apply es_i64 hT; (iterate 4 exact rfl); (iterate 2 (first | omega | (dsimp only; omega))))
    | (apply aw_draw [] [] hmix; decide +kernel)
    | (apply es_buildS hT (cs := [.slice none 0 0]); (iterate 4 exact rfl))
    | (apply es_load; (iterate 5 exact rfl); first | (apply ld_blk hT; exact rfl; exact rfl; (repeat (first | exact List.mem_cons_self | apply List.mem_cons_of_mem)); exact rfl; exact rfl) | (apply ld_all hT; exact rfl; exact rfl; (repeat (first | exact List.mem_cons_self | apply List.mem_cons_of_mem)); exact rfl))
    | (apply es_box; (iterate 5 exact rfl); intro _) | (apply es_alloc hT; (iterate 5 exact rfl); intro _)
    | (apply aw_condT; (iterate 2 exact rfl)) | (apply aw_condF; (iterate 2 exact rfl))
    | (apply es_case; exact rfl; all_goals intro hb; all_goals (fail_if_success (change true = true at hb)); all_goals (fail_if_success (change false = false at hb)); all_goals (try dsimp only at hb); all_goals (try simp only [hb]); all_goals (first | replace hb := of_decide_eq_true hb | replace hb := of_decide_eq_false hb | replace hb := bne_t hb | replace hb := bne_f hb | replace hb := eq_of_beq hb | replace hb := ne_of_beq_false hb | skip); all_goals (try (exfalso; omega)))
    | (apply aw_cond; exact rfl; all_goals intro hb; all_goals (try dsimp only at hb); all_goals (try simp only [hb]); all_goals (first | replace hb := of_decide_eq_true hb | replace hb := of_decide_eq_false hb | replace hb := bne_t hb | replace hb := bne_f hb | replace hb := eq_of_beq hb | replace hb := ne_of_beq_false hb | skip); all_goals (try (exfalso; omega))))
  all_goals (apply ret1; exact rfl; exact ⟨_, rfl, rfl⟩)
theorem ask_NewN (W : World) (h : List Chunk) : FSpec Tryz.prog W 98 [] h (fun v h' => ∃ p, v = .pointer (some ⟨p, 0, none⟩) ∧ h' = .blk p 232 [.slice none 0 0] :: h) := by
  refine spec_body Tryz.func98 rfl rfl Tryz.results98 Tryz.ntmps98 rfl rfl ?_
  repeat' (first
    | apply aw_seq | apply aw_region | apply aw_ret | apply aw_skip | apply aw_exit | apply aw_block | apply es_nil
    | (apply es_pure hT; (iterate 4 exact rfl)) | (apply es_skip; (iterate 3 exact rfl)) | (apply es_skip0; (iterate 2 exact rfl))
    | (apply es_i64 hT; (iterate 4 exact rfl); (iterate 2 (first | omega | (dsimp only; omega))))
    | (apply aw_draw [] [] hmix; decide +kernel)
    | (apply es_buildS hT (cs := [.slice none 0 0]); (iterate 4 exact rfl))
    | (apply es_load; (iterate 5 exact rfl); first | (apply ld_blk hT; exact rfl; exact rfl; (repeat (first | exact List.mem_cons_self | apply List.mem_cons_of_mem)); exact rfl; exact rfl) | (apply ld_all hT; exact rfl; exact rfl; (repeat (first | exact List.mem_cons_self | apply List.mem_cons_of_mem)); exact rfl))
    | (apply es_box; (iterate 5 exact rfl); intro _) | (apply es_alloc hT; (iterate 5 exact rfl); intro _)
    | (apply aw_condT; (iterate 2 exact rfl)) | (apply aw_condF; (iterate 2 exact rfl))
    | (apply es_case; exact rfl; all_goals intro hb; all_goals (fail_if_success (change true = true at hb)); all_goals (fail_if_success (change false = false at hb)); all_goals (try dsimp only at hb); all_goals (try simp only [hb]); all_goals (first | replace hb := of_decide_eq_true hb | replace hb := of_decide_eq_false hb | replace hb := bne_t hb | replace hb := bne_f hb | replace hb := eq_of_beq hb | replace hb := ne_of_beq_false hb | skip); all_goals (try (exfalso; omega)))
    | (apply aw_cond; exact rfl; all_goals intro hb; all_goals (try dsimp only at hb); all_goals (try simp only [hb]); all_goals (first | replace hb := of_decide_eq_true hb | replace hb := of_decide_eq_false hb | replace hb := bne_t hb | replace hb := bne_f hb | replace hb := eq_of_beq hb | replace hb := ne_of_beq_false hb | skip); all_goals (try (exfalso; omega))))
  all_goals (apply ret1; exact rfl; exact ⟨_, rfl, rfl⟩)
theorem due_NewN (W : World) (h : List Chunk) : FSpec Tryz.prog W 99 [] h (fun v h' => ∃ p, v = .pointer (some ⟨p, 0, none⟩) ∧ h' = .blk p 234 [.slice none 0 0] :: h) := by
  refine spec_body Tryz.func99 rfl rfl Tryz.results99 Tryz.ntmps99 rfl rfl ?_
  repeat' (first
    | apply aw_seq | apply aw_region | apply aw_ret | apply aw_skip | apply aw_exit | apply aw_block | apply es_nil
    | (apply es_pure hT; (iterate 4 exact rfl)) | (apply es_skip; (iterate 3 exact rfl)) | (apply es_skip0; (iterate 2 exact rfl))
    | (apply es_i64 hT; (iterate 4 exact rfl); (iterate 2 (first | omega | (dsimp only; omega))))
    | (apply aw_draw [] [] hmix; decide +kernel)
    | (apply es_buildS hT (cs := [.slice none 0 0]); (iterate 4 exact rfl))
    | (apply es_load; (iterate 5 exact rfl); first | (apply ld_blk hT; exact rfl; exact rfl; (repeat (first | exact List.mem_cons_self | apply List.mem_cons_of_mem)); exact rfl; exact rfl) | (apply ld_all hT; exact rfl; exact rfl; (repeat (first | exact List.mem_cons_self | apply List.mem_cons_of_mem)); exact rfl))
    | (apply es_box; (iterate 5 exact rfl); intro _) | (apply es_alloc hT; (iterate 5 exact rfl); intro _)
    | (apply aw_condT; (iterate 2 exact rfl)) | (apply aw_condF; (iterate 2 exact rfl))
    | (apply es_case; exact rfl; all_goals intro hb; all_goals (fail_if_success (change true = true at hb)); all_goals (fail_if_success (change false = false at hb)); all_goals (try dsimp only at hb); all_goals (try simp only [hb]); all_goals (first | replace hb := of_decide_eq_true hb | replace hb := of_decide_eq_false hb | replace hb := bne_t hb | replace hb := bne_f hb | replace hb := eq_of_beq hb | replace hb := ne_of_beq_false hb | skip); all_goals (try (exfalso; omega)))
    | (apply aw_cond; exact rfl; all_goals intro hb; all_goals (try dsimp only at hb); all_goals (try simp only [hb]); all_goals (first | replace hb := of_decide_eq_true hb | replace hb := of_decide_eq_false hb | replace hb := bne_t hb | replace hb := bne_f hb | replace hb := eq_of_beq hb | replace hb := ne_of_beq_false hb | skip); all_goals (try (exfalso; omega))))
  all_goals (apply ret1; exact rfl; exact ⟨_, rfl, rfl⟩)
theorem blot_NewN (W : World) (h : List Chunk) : FSpec Tryz.prog W 100 [] h (fun v h' => ∃ p, v = .pointer (some ⟨p, 0, none⟩) ∧ h' = .blk p 236 [.slice none 0 0, .int .u64 0] :: h) := by
  refine spec_body Tryz.func100 rfl rfl Tryz.results100 Tryz.ntmps100 rfl rfl ?_
  repeat' (first
    | apply aw_seq | apply aw_region | apply aw_ret | apply aw_skip | apply aw_exit | apply aw_block | apply es_nil
    | (apply es_pure hT; (iterate 4 exact rfl)) | (apply es_skip; (iterate 3 exact rfl)) | (apply es_skip0; (iterate 2 exact rfl))
    | (apply es_i64 hT; (iterate 4 exact rfl); (iterate 2 (first | omega | (dsimp only; omega))))
    | (apply aw_draw [] [] hmix; decide +kernel)
    | (apply es_buildS hT (cs := [.slice none 0 0, .int .u64 0]); (iterate 4 exact rfl))
    | (apply es_load; (iterate 5 exact rfl); first | (apply ld_blk hT; exact rfl; exact rfl; (repeat (first | exact List.mem_cons_self | apply List.mem_cons_of_mem)); exact rfl; exact rfl) | (apply ld_all hT; exact rfl; exact rfl; (repeat (first | exact List.mem_cons_self | apply List.mem_cons_of_mem)); exact rfl))
    | (apply es_box; (iterate 5 exact rfl); intro _) | (apply es_alloc hT; (iterate 5 exact rfl); intro _)
    | (apply aw_condT; (iterate 2 exact rfl)) | (apply aw_condF; (iterate 2 exact rfl))
    | (apply es_case; exact rfl; all_goals intro hb; all_goals (fail_if_success (change true = true at hb)); all_goals (fail_if_success (change false = false at hb)); all_goals (try dsimp only at hb); all_goals (try simp only [hb]); all_goals (first | replace hb := of_decide_eq_true hb | replace hb := of_decide_eq_false hb | replace hb := bne_t hb | replace hb := bne_f hb | replace hb := eq_of_beq hb | replace hb := ne_of_beq_false hb | skip); all_goals (try (exfalso; omega)))
    | (apply aw_cond; exact rfl; all_goals intro hb; all_goals (try dsimp only at hb); all_goals (try simp only [hb]); all_goals (first | replace hb := of_decide_eq_true hb | replace hb := of_decide_eq_false hb | replace hb := bne_t hb | replace hb := bne_f hb | replace hb := eq_of_beq hb | replace hb := ne_of_beq_false hb | skip); all_goals (try (exfalso; omega))))
  all_goals (apply ret1; exact rfl; exact ⟨_, rfl, rfl⟩)
theorem book_NewN (W : World) (h : List Chunk) : FSpec Tryz.prog W 84 [] h (fun v h' => ∃ p, v = .pointer (some ⟨p, 0, none⟩) ∧ h' = .blk p 193 [.slice none 0 0] :: h) := by
  refine spec_body Tryz.func84 rfl rfl Tryz.results84 Tryz.ntmps84 rfl rfl ?_
  repeat' (first
    | apply aw_seq | apply aw_region | apply aw_ret | apply aw_skip | apply aw_exit | apply aw_block | apply es_nil
    | (apply es_pure hT; (iterate 4 exact rfl)) | (apply es_skip; (iterate 3 exact rfl)) | (apply es_skip0; (iterate 2 exact rfl))
    | (apply es_i64 hT; (iterate 4 exact rfl); (iterate 2 (first | omega | (dsimp only; omega))))
    | (apply aw_draw [] [] hmix; decide +kernel)
    | (apply es_buildS hT (cs := [.slice none 0 0]); (iterate 4 exact rfl))
    | (apply es_load; (iterate 5 exact rfl); first | (apply ld_blk hT; exact rfl; exact rfl; (repeat (first | exact List.mem_cons_self | apply List.mem_cons_of_mem)); exact rfl; exact rfl) | (apply ld_all hT; exact rfl; exact rfl; (repeat (first | exact List.mem_cons_self | apply List.mem_cons_of_mem)); exact rfl))
    | (apply es_box; (iterate 5 exact rfl); intro _) | (apply es_alloc hT; (iterate 5 exact rfl); intro _)
    | (apply aw_condT; (iterate 2 exact rfl)) | (apply aw_condF; (iterate 2 exact rfl))
    | (apply es_case; exact rfl; all_goals intro hb; all_goals (fail_if_success (change true = true at hb)); all_goals (fail_if_success (change false = false at hb)); all_goals (try dsimp only at hb); all_goals (try simp only [hb]); all_goals (first | replace hb := of_decide_eq_true hb | replace hb := of_decide_eq_false hb | replace hb := bne_t hb | replace hb := bne_f hb | replace hb := eq_of_beq hb | replace hb := ne_of_beq_false hb | skip); all_goals (try (exfalso; omega)))
    | (apply aw_cond; exact rfl; all_goals intro hb; all_goals (try dsimp only at hb); all_goals (try simp only [hb]); all_goals (first | replace hb := of_decide_eq_true hb | replace hb := of_decide_eq_false hb | replace hb := bne_t hb | replace hb := bne_f hb | replace hb := eq_of_beq hb | replace hb := ne_of_beq_false hb | skip); all_goals (try (exfalso; omega))))
  all_goals (apply ret1; exact rfl; exact ⟨_, rfl, rfl⟩)
def kb1 : BondR := ⟨5, 10, 10, 100, 5, 500, false⟩
def kb2 : BondR := ⟨1, 1, 1, 1000, 1, 1000, false⟩
def kps : List PartyR := [⟨1, 12, 0⟩, ⟨1, 4, 0⟩, ⟨2, 0, 100000⟩, ⟨2, 0, 3000⟩, ⟨3, 0, 0⟩]
theorem rules_0 (W : World) (h : List Chunk) : FSpec Tryz.prog W 67 [.int .i64 0] h
    (fun v h' => ∃ g1 g2, v = rulesV (some ⟨g1, 0, none⟩) 2 2 (some ⟨g2, 0, none⟩) 5 5 3 50 ∧ h' = .own (some ⟨g1, 0, none⟩) 2 2 162 7 ([kb1, kb2].flatMap BondR.enc) :: .own (some ⟨g2, 0, none⟩) 5 5 165 3 (kps.flatMap PartyR.enc) :: h) := by
  refine FSpec.dropTo ?_
  refine spec_body Tryz.func67 rfl rfl Tryz.results67 Tryz.ntmps67 rfl rfl ?_
  repeat' (first
    | apply aw_seq | apply aw_region | apply aw_ret | apply aw_skip | apply aw_exit | apply aw_block | apply es_nil
    | (apply es_pure hT; (iterate 4 exact rfl)) | (apply es_skip; (iterate 3 exact rfl)) | (apply es_skip0; (iterate 2 exact rfl))
    | (apply es_i64 hT; (iterate 4 exact rfl); (iterate 2 (first | omega | (dsimp only; omega))))
    | (apply aw_draw [] [] hmix; decide +kernel)
    | (apply es_buildS hT (cs := BondR.enc kb1); (iterate 4 exact rfl))
    | (apply es_buildS hT (cs := BondR.enc kb2); (iterate 4 exact rfl))
    | (apply es_buildS hT (cs := PartyR.enc ⟨1, 12, 0⟩); (iterate 4 exact rfl))
    | (apply es_buildS hT (cs := PartyR.enc ⟨1, 4, 0⟩); (iterate 4 exact rfl))
    | (apply es_buildS hT (cs := PartyR.enc ⟨2, 0, 100000⟩); (iterate 4 exact rfl))
    | (apply es_buildS hT (cs := PartyR.enc ⟨2, 0, 3000⟩); (iterate 4 exact rfl))
    | (apply es_buildS hT (cs := PartyR.enc ⟨3, 0, 0⟩); (iterate 4 exact rfl))
    | (apply es_buildSlice hT; (iterate 12 exact rfl); first | ((fail_if_success (have q := g10)); intro g10) | intro g16)
    | (apply es_buildS hT (cs := (rulesV (some ⟨g10, 0, none⟩) 2 2 (some ⟨g16, 0, none⟩) 5 5 3 50).cells.toList); (iterate 4 exact rfl))
    | (apply es_bitsV; (iterate 6 exact rfl); exact (by decide +kernel : bitI .and .i64 0 3 = 0))
    | (apply es_store hT; (iterate 6 exact rfl); (repeat (first | exact sel0 | apply selS)); (iterate 3 exact rfl); exact Nat.le_of_ble_eq_true rfl)
    | (apply es_load; (iterate 5 exact rfl); first | (apply ld_blk hT; exact rfl; exact rfl; (repeat (first | exact List.mem_cons_self | apply List.mem_cons_of_mem)); exact rfl; exact rfl) | (apply ld_all hT; exact rfl; exact rfl; (repeat (first | exact List.mem_cons_self | apply List.mem_cons_of_mem)); exact rfl))
    | (apply es_box; (iterate 5 exact rfl); intro _) | (apply es_alloc hT; (iterate 5 exact rfl); intro _)
    | (apply aw_condT; (iterate 2 exact rfl)) | (apply aw_condF; (iterate 2 exact rfl))
    | (apply es_case; exact rfl; all_goals intro hb; all_goals (fail_if_success (change true = true at hb)); all_goals (fail_if_success (change false = false at hb)); all_goals (try dsimp only at hb); all_goals (try simp only [hb]); all_goals (first | replace hb := of_decide_eq_true hb | replace hb := of_decide_eq_false hb | replace hb := bne_t hb | replace hb := bne_f hb | replace hb := eq_of_beq hb | replace hb := ne_of_beq_false hb | skip); all_goals (try (exfalso; omega)))
    | (apply aw_cond; exact rfl; all_goals intro hb; all_goals (try dsimp only at hb); all_goals (try simp only [hb]); all_goals (first | replace hb := of_decide_eq_true hb | replace hb := of_decide_eq_false hb | replace hb := bne_t hb | replace hb := bne_f hb | replace hb := eq_of_beq hb | replace hb := ne_of_beq_false hb | skip); all_goals (try (exfalso; omega))))
  all_goals first
    | (apply ret1c; exact rfl; (apply ld_all hT; exact rfl; exact rfl; (repeat (first | exact List.mem_cons_self | apply List.mem_cons_of_mem)); exact rfl); exact ⟨_, (by show DropTo _ (.own (some ⟨g10, 0, none⟩) 2 2 162 7 ([kb1, kb2].flatMap BondR.enc) :: .own (some ⟨g16, 0, none⟩) 5 5 165 3 (kps.flatMap PartyR.enc) :: h); (repeat (first | exact dt_end | (apply dt_cons; · (repeat (first | exact sel0 | apply selS))) | apply dt_skip))), g10, g16, rfl, rfl⟩)
    | skip
end Go.Proofs.YtjcnaeengplcbaaGreat

set_option linter.unusedSimpArgs false
set_option linter.unusedVariables false
namespace Go.Proofs.YtjcnaeengplcbaaGreat
open Go Go.Sl

structure Dk where
  bonds : List BondR
  parties : List PartyR
  look : Int
  beat : Int
  now : Int
  books : List (List Order)
  used : List Int
  quotes : List Quote
  asks : List AskR
  due : List Due
  cash : List Int
  pos : List (List Int)
  trades : List TradeR
  head : Int
  order : Int
  seq : Int
  quote : Int
  ask : Int
def newDk (bs : List BondR) (ps : List PartyR) (look beat : Int) : Dk :=
  ⟨bs, ps, look, beat, 0, List.replicate bs.length [], List.replicate ps.length 0, [], [], [], List.replicate ps.length 0, List.replicate ps.length (List.replicate bs.length 0), [], 0, 0, 0, 0, 0⟩
/-- where a slice lies: its first cell, its room -/
structure Sp where
  A : Option Addr
  c : Nat
def Sp.sl (s : Sp) (n : Nat) : Value := .slice s.A n s.c
def Sp.own (s : Sp) (n : Nat) (t : TypeId) (k : Nat) (cs : List Value) : Chunk := .own s.A n s.c t k cs
/-- a book: where it lies, its orders -/
structure BAd where
  p : Nat
  s : Sp
  l : List Order
def BAd.ptr (b : BAd) : Value := .pointer (some ⟨b.p, 0, none⟩)
def BAd.ck (b : BAd) : List Chunk := [.blk b.p 193 [b.s.sl b.l.length], b.s.own b.l.length 82 6 (b.l.flatMap Order.enc)]
/-- where a desk's parts lie -/
structure DAd where
  d : Nat
  f : Nat
  q : Nat
  a : Nat
  u : Nat
  p : Nat
  b : Nat
  bonds : Sp
  parties : Sp
  books : Sp
  fparties : Sp
  used : Sp
  quotes : Sp
  asks : Sp
  due : Sp
  cash : Sp
  pos : Sp
  trades : Sp
def ptrV (n : Nat) : Value := .pointer (some ⟨n, 0, none⟩)
def deskCs (x : DAd) (s : Dk) : List Value := [x.bonds.sl s.bonds.length, x.parties.sl s.parties.length, .int .i64 s.look, .int .i64 s.beat, .int .i64 s.now, x.books.sl s.books.length, ptrV x.f, ptrV x.q, ptrV x.a, ptrV x.u, ptrV x.p, ptrV x.b,
  .int .i64 s.order, .int .i64 s.seq, .int .i64 s.quote, .int .i64 s.ask]
def deskTab (x : DAd) (s : Dk) (bks : List BAd) (rows : List PRow) (F : List Chunk) : List Chunk :=
  .blk x.d 176 (deskCs x s) :: x.bonds.own s.bonds.length 162 7 (s.bonds.flatMap BondR.enc) :: x.parties.own s.parties.length 165 3 (s.parties.flatMap PartyR.enc)
    :: x.books.own s.books.length 37 1 (bks.map BAd.ptr)
    :: .blk x.f 228 [x.fparties.sl s.parties.length, x.used.sl s.parties.length] :: x.fparties.own s.parties.length 165 3 (s.parties.flatMap PartyR.enc) :: x.used.own s.parties.length 2 1 (s.used.map (Value.int .i64))
    :: .blk x.q 230 [x.quotes.sl s.quotes.length] :: x.quotes.own s.quotes.length 200 6 (s.quotes.flatMap Quote.enc)
    :: .blk x.a 232 [x.asks.sl s.asks.length] :: x.asks.own s.asks.length 106 10 (s.asks.flatMap AskR.enc)
    :: .blk x.u 234 [x.due.sl s.due.length] :: x.due.own s.due.length 205 3 (s.due.flatMap Due.enc)
    :: .blk x.p 132 [x.pos.sl rows.length, x.cash.sl s.cash.length] :: x.cash.own s.cash.length 2 1 (s.cash.map (Value.int .i64)) :: x.pos.own rows.length 129 1 (rows.map PRow.hd)
    :: .blk x.b 236 [x.trades.sl s.trades.length, .int .u64 s.head] :: x.trades.own s.trades.length 30 8 (s.trades.flatMap TradeR.enc)
    :: (bks.flatMap BAd.ck ++ (rows.map PRow.ck ++ F))
/-- the memory fits the state -/
def deskFits (s : Dk) (bks : List BAd) (rows : List PRow) : Prop := bks.map BAd.l = s.books ∧ rows.map PRow.l = s.pos
end Go.Proofs.YtjcnaeengplcbaaGreat

set_option linter.unusedSimpArgs false
set_option linter.unusedVariables false
namespace Go.Proofs.YtjcnaeengplcbaaGreat
open Go Go.Sl
attribute [local irreducible] AW ES EP Ld RetQ
set_option maxRecDepth 100000

theorem book_NewT (W : World) (h : List Chunk) : FSpec Tryz.prog W 84 [] h (fun v h' => ∃ p, v = .pointer (some ⟨p, 0, none⟩) ∧ h' = .blk p 193 [.slice none 0 0] :: .own none 0 0 82 6 [] :: h) := by
  refine FSpec.conv (book_NewN W h) ?_
  rintro v h' ⟨p, rfl, rfl⟩ w hw
  exact ⟨_, (hw.own_nil 82 6).perm sel1, p, rfl, rfl⟩
/-- a new desk that has so many books yet -/
def newDkN (bs : List BondR) (ps : List PartyR) (look beat : Int) (k : Nat) : Dk := { newDk bs ps look beat with books := List.replicate k [] }
theorem isR_len {bs : List BondR} {ps : List PartyR} {look beat : Int} (h : isR bs ps look beat = true) : (1 ≤ bs.length ∧ bs.length ≤ 4) ∧ (1 ≤ ps.length ∧ ps.length ≤ 8) ∧ (1 ≤ look ∧ look ≤ 1000) := by
  unfold isR at h
  simp only [Bool.and_eq_true] at h
  have h1 := inB_t h.1.1
  have h2 := inB_t h.1.2
  have h3 := inB_t h.2.1.2
  omega
set_option maxHeartbeats 2000000 in
theorem desk_New (W : World) (h : List Chunk) (AB : Option Addr) (cB : Nat) (bs : List BondR) (AP : Option Addr) (cP : Nat) (ps : List PartyR) (look beat : Int) (hrB : Reads W h AB bs.length 7 (bs.flatMap BondR.enc)) (hrP : Reads W h AP ps.length 3 (ps.flatMap PartyR.enc)) (hb : bs.length ≤ 1000000) (hp : ps.length ≤ 1000000) :
    FSpec Tryz.prog W 34 [rulesV AB bs.length cB AP ps.length cP look beat] h
      (fun v h' => (isR bs ps look beat = false ∧ v = .pointer none ∧ h' = h) ∨ (isR bs ps look beat = true ∧ ∃ x bks rows, v = ptrV x.d ∧ h' = deskTab x (newDk bs ps look beat) bks rows h ∧ deskFits (newDk bs ps look beat) bks rows)) := by
  refine FSpec.dropTo ?_
  have hF := fun k (hk : ∀ c ∈ h, c ∈ k) => firm_New W k AB cB bs AP cP ps look beat (hrB.mono hk) (hrP.mono hk) hb hp
  have hcb := fun k (hk : ∀ c ∈ h, c ∈ k) => cloneBondR W k AB bs.length cB (bs.flatMap BondR.enc) (hrB.mono hk) (by omega)
  have hcl := fun k (hk : ∀ c ∈ h, c ∈ k) => clonePartyR W k AP ps.length cP (ps.flatMap PartyR.enc) (hrP.mono hk) (by omega)
  refine spec_body Tryz.func34 rfl rfl Tryz.results34 Tryz.ntmps34 rfl rfl ?_
  cases hR : isR bs ps look beat
  · have hF0 := fun k hk => (hF k hk).mono (R' := fun v h' => v = .pointer none ∧ h' = k) (fun v h' hh => by
      rcases hh with ⟨_, a, b⟩ | ⟨a, _⟩
      · exact ⟨a, b⟩
      · rw [hR] at a; cases a)
    repeat' (first
      | apply aw_seq | apply aw_region | apply aw_ret | apply aw_skip | apply aw_exit | apply aw_block | apply es_nil
      | (apply es_pure hT; (iterate 4 exact rfl)) | (apply es_skip; (iterate 3 exact rfl)) | (apply es_skip0; (iterate 2 exact rfl))
      | (apply es_i64 hT; (iterate 4 exact rfl); (iterate 2 (first | omega | (dsimp only; omega))))
      | (apply aw_draw [] [] hmix; decide +kernel)
      | (apply es_call (hs := (hF0 _ (by (intro c hc; (repeat (first | exact hc | apply List.mem_cons_of_mem | apply List.mem_append_right)))))); (iterate 7 exact rfl); rintro _ _ ⟨rfl, rfl⟩)
      | (apply es_load; (iterate 5 exact rfl); first | (apply ld_blk hT; exact rfl; exact rfl; (repeat (first | exact List.mem_cons_self | apply List.mem_cons_of_mem | apply List.mem_append_right)); exact rfl; exact rfl) | (apply ld_all hT; exact rfl; exact rfl; (repeat (first | exact List.mem_cons_self | apply List.mem_cons_of_mem | apply List.mem_append_right)); exact rfl))
      | (apply es_box; (iterate 5 exact rfl); intro _) | (apply es_alloc hT; (iterate 5 exact rfl); intro _)
      | (apply aw_condT; (iterate 2 exact rfl)) | (apply aw_condF; (iterate 2 exact rfl))
      | (apply es_case; exact rfl; all_goals intro hb; all_goals (fail_if_success (change true = true at hb)); all_goals (fail_if_success (change false = false at hb)); all_goals (try dsimp only at hb); all_goals (try simp only [hb]); all_goals (first | replace hb := of_decide_eq_true hb | replace hb := of_decide_eq_false hb | replace hb := bne_t hb | replace hb := bne_f hb | replace hb := eq_of_beq hb | replace hb := ne_of_beq_false hb | skip); all_goals (try (exfalso; omega)))
      | (apply aw_cond; exact rfl; all_goals intro hb; all_goals (try dsimp only at hb); all_goals (try simp only [hb]); all_goals (first | replace hb := of_decide_eq_true hb | replace hb := of_decide_eq_false hb | replace hb := bne_t hb | replace hb := bne_f hb | replace hb := eq_of_beq hb | replace hb := ne_of_beq_false hb | skip); all_goals (try (exfalso; omega))))
    all_goals (apply ret1; exact rfl; exact ⟨h, by (repeat (first | exact dt_end | (apply dt_cons; · (repeat (first | exact sel0 | apply selS | apply selApp))) | apply dt_skip | apply dt_both)), .inl ⟨rfl, rfl, rfl⟩⟩)
  · obtain ⟨⟨b1, b2⟩, ⟨p1, p2⟩, _⟩ := isR_len hR
    have hF1 := fun k hk => (hF k hk).mono (R' := fun v h' => ∃ p A c U u, v = .pointer (some ⟨p, 0, none⟩) ∧ h' = firmTab p A c U u ps (List.replicate ps.length 0) k) (fun v h' hh => by
      rcases hh with ⟨a, _⟩ | ⟨_, a⟩
      · rw [hR] at a; cases a
      · exact a)
    have hps : isPosN ps.length bs.length = true := by unfold isPosN; simp; omega
    have hP1 := fun k => (pos_New W k ps.length bs.length).mono (R' := fun v h' => ∃ p AC cC AR cR rs, v = .pointer (some ⟨p, 0, none⟩) ∧ h' = posTab p AC cC AR cR (List.replicate ps.length 0) rs k ∧ rs.map PRow.l = List.replicate ps.length (List.replicate bs.length 0)) (fun v h' hh => by
      rcases hh with ⟨a, _⟩ | ⟨_, a⟩
      · rw [hps] at a; cases a
      · exact a)
    repeat' (first
      | apply aw_seq | apply aw_region | apply aw_ret | apply aw_skip | apply aw_exit | apply aw_block | apply es_nil
      | (apply es_pure hT; (iterate 4 exact rfl)) | (apply es_skip; (iterate 3 exact rfl)) | (apply es_skip0; (iterate 2 exact rfl))
      | (apply es_i64 hT; (iterate 4 exact rfl); (iterate 2 (first | omega | (dsimp only; omega))))
      | (apply aw_treeD [] [97, 98, 99, 19, 100] (.step 0 <| .step 1 <| .step 5 <| .step 6 <| .step 7 <| .step 8 <| .step 9 <| .step 10 <| .step 2 <| .step 3 <| .step 4 <| .step 11 <| .step 12 <| .step 13 <| .step 14 <| .step 15 <| .nil) hmix; decide +kernel) | apply ep_nil | apply ep_alt | (apply ep_step; exact rfl)
      | (apply aw_treeD [] [] (.step 0 <| .step 1 <| .step 3 <| .alt (.step 2 <| .step 4 <| .step 6 <| .step 5 <| .step 7 <| .step 8 <| .step 9 <| .nil) ((.step 4 <| .step 2 <| .step 6 <| .step 5 <| .step 7 <| .step 8 <| .step 9 <| .nil))) hmix; decide +kernel) | apply ep_nil | apply ep_alt | (apply ep_step; exact rfl)
      | (apply es_call (hs := (hF1 _ (by (intro c hc; (repeat (first | exact hc | apply List.mem_cons_of_mem | apply List.mem_append_right)))))); (iterate 7 exact rfl); rintro _ _ ⟨pf, Af, cf, Uf, uf, rfl, rfl⟩)
      | (apply es_call (hs := (hcb _ (by (intro c hc; (repeat (first | exact hc | apply List.mem_cons_of_mem | apply List.mem_append_right)))))); (iterate 7 exact rfl); rintro _ _ ⟨A1, c1, rfl, rfl⟩)
      | (apply es_call (hs := (hcl _ (by (intro c hc; (repeat (first | exact hc | apply List.mem_cons_of_mem | apply List.mem_append_right)))))); (iterate 7 exact rfl); rintro _ _ ⟨A2, c2, rfl, rfl⟩)
      | (apply es_callA (hs := (quote_NewN W _)); (iterate 7 exact rfl); (rintro _ _ ⟨pq, rfl, rfl⟩; refine ⟨[_], rfl, ?_⟩))
      | (apply es_callA (hs := (ask_NewN W _)); (iterate 7 exact rfl); (rintro _ _ ⟨pa, rfl, rfl⟩; refine ⟨[_], rfl, ?_⟩))
      | (apply es_callA (hs := (due_NewN W _)); (iterate 7 exact rfl); (rintro _ _ ⟨pu, rfl, rfl⟩; refine ⟨[_], rfl, ?_⟩))
      | (apply es_callA (hs := (blot_NewN W _)); (iterate 7 exact rfl); (rintro _ _ ⟨pb, rfl, rfl⟩; refine ⟨[_], rfl, ?_⟩))
      | (apply es_callA (hs := (hP1 _)); (iterate 7 exact rfl); (rintro _ _ ⟨pp, AC, cC, AR, cR, rows, rfl, rfl, hrows⟩; refine ⟨_ :: _ :: _ :: rows.map PRow.ck, rfl, ?_⟩))
      | (apply es_store hT; (iterate 6 exact rfl); (repeat (first | exact sel0 | apply selS | apply selApp)); (iterate 3 exact rfl); exact Nat.le_of_ble_eq_true rfl)
      | (apply es_buildS hT (cs := [.slice A1 bs.length c1, .slice A2 ps.length c2, .int .i64 look, .int .i64 beat, .int .i64 0, .slice none 0 0, ptrV pf, ptrV pq, ptrV pa, ptrV pu, ptrV pp, ptrV pb, .int .i64 0, .int .i64 0, .int .i64 0, .int .i64 0]); (iterate 4 exact rfl))
      | (apply es_box; (iterate 5 exact rfl); intro gd)
      | (apply es_load; (iterate 5 exact rfl); first | (apply ld_blk hT; exact rfl; exact rfl; (repeat (first | exact List.mem_cons_self | apply List.mem_cons_of_mem | apply List.mem_append_right)); exact rfl; exact rfl) | (apply ld_all hT; exact rfl; exact rfl; (repeat (first | exact List.mem_cons_self | apply List.mem_cons_of_mem | apply List.mem_append_right)); exact rfl))
      | (apply es_box; (iterate 5 exact rfl); intro _) | (apply es_alloc hT; (iterate 5 exact rfl); intro _)
      | (apply aw_condT; (iterate 2 exact rfl)) | (apply aw_condF; (iterate 2 exact rfl))
      | (apply es_case; exact rfl; all_goals intro hb; all_goals (fail_if_success (change true = true at hb)); all_goals (fail_if_success (change false = false at hb)); all_goals (try dsimp only at hb); all_goals (try simp only [hb]); all_goals (first | replace hb := of_decide_eq_true hb | replace hb := of_decide_eq_false hb | replace hb := bne_t hb | replace hb := bne_f hb | replace hb := eq_of_beq hb | replace hb := ne_of_beq_false hb | skip); all_goals (try (exfalso; omega)))
      | (apply aw_cond; exact rfl; all_goals intro hb; all_goals (try dsimp only at hb); all_goals (try simp only [hb]); all_goals (first | replace hb := of_decide_eq_true hb | replace hb := of_decide_eq_false hb | replace hb := bne_t hb | replace hb := bne_f hb | replace hb := eq_of_beq hb | replace hb := ne_of_beq_false hb | skip); all_goals (try (exfalso; omega))))
    all_goals try (exfalso; omega)
    all_goals
      refine aw_conv (fun w hw => ⟨_, ((((hw.own_nil 37 1).own_nil 200 6).own_nil 106 10).own_nil 205 3).own_nil 30 8, ?_⟩)
      refine aw_loopD (α := Nat × Sp × List BAd) (E := fun x => [(4, ptrV gd), (34, .int .i64 bs.length), (35, .int .i64 x.1)])
        (H := fun x => deskTab ⟨gd, pf, pq, pa, pu, pp, pb, ⟨A1, c1⟩, ⟨A2, c2⟩, x.2.1, ⟨Af, cf⟩, ⟨Uf, uf⟩, ⟨none, 0⟩, ⟨none, 0⟩, ⟨none, 0⟩, ⟨AC, cC⟩, ⟨AR, cR⟩, ⟨none, 0⟩⟩ (newDkN bs ps look beat x.1) x.2.2 rows h) (μ := fun x => bs.length - x.1)
        (S := fun x => x.1 ≤ bs.length ∧ x.2.2.map BAd.l = List.replicate x.1 []) (0, ⟨none, 0⟩, []) ⟨Nat.zero_le _, rfl⟩ ⟨rfl, rfl, rfl, trivial⟩ ?_ ?_
      · simp only [deskTab, deskCs, newDkN, newDk, Sp.sl, Sp.own, firmTab, posTab, List.length_replicate, List.map_replicate, List.length_nil, List.flatMap_nil, List.map_nil, List.replicate_zero, List.nil_append]
        (repeat (first | exact dt_end | (apply dt_cons; · (repeat (first | exact sel0 | apply selS | apply selApp))) | apply dt_skip | apply dt_both))
      · rintro ⟨k, sp, bks⟩ ⟨hk, hbk⟩
        dsimp only at hk hbk ⊢
        have hlen : bks.length = k := by have := congrArg List.length hbk; simpa using this
        by_cases hlt : k < bs.length
        · have hd1 : decide ((k : Int) < (bs.length : Int)) = true := by simp; omega
          simp only [deskTab, deskCs, newDkN, newDk, Sp.sl, Sp.own, List.length_replicate, List.map_replicate, List.length_nil, List.flatMap_nil, List.map_nil]
          repeat' (first
            | apply aw_seq | apply aw_region | apply aw_ret | apply aw_skip | apply aw_exit | apply aw_block | apply es_nil
            | (apply es_pure hT; (iterate 4 exact rfl)) | (apply es_skip; (iterate 3 exact rfl)) | (apply es_skip0; (iterate 2 exact rfl))
            | (apply es_i64 hT; (iterate 4 exact rfl); (iterate 2 (first | omega | (dsimp only; omega))))
            | (apply aw_treeD [] [] (.step 0 <| .step 1 <| .step 2 <| .step 3 <| .alt (.step 4 <| .step 5 <| .step 6 <| .step 7 <| .step 8 <| .step 9 <| .step 10 <| .nil) ((.step 5 <| .step 4 <| .step 6 <| .step 7 <| .step 8 <| .step 9 <| .step 10 <| .nil))) hmix; decide +kernel) | apply ep_nil | apply ep_alt | (apply ep_step; exact rfl)
            | (apply es_call (hs := (book_NewT W _)); (iterate 7 exact rfl); rintro _ _ ⟨pk, rfl, rfl⟩)
            | (apply es_buildSlice hT; (iterate 12 exact rfl); intro g43)
            | (apply es_append hT; (iterate 10 exact rfl); (repeat (first | exact sel0 | apply selS | apply selApp)); exact Reads.own mem0 rfl (List.all_eq_true.1 rfl); omega; (show (_ : Nat) * 8 ≤ _; omega); intro A' c')
            | (apply es_store hT; (iterate 6 exact rfl); (repeat (first | exact sel0 | apply selS | apply selApp)); (iterate 3 exact rfl); exact Nat.le_of_ble_eq_true rfl)
            | (apply es_load; (iterate 5 exact rfl); first | (apply ld_blk hT; exact rfl; exact rfl; (repeat (first | exact List.mem_cons_self | apply List.mem_cons_of_mem | apply List.mem_append_right)); exact rfl; exact rfl) | (apply ld_all hT; exact rfl; exact rfl; (repeat (first | exact List.mem_cons_self | apply List.mem_cons_of_mem | apply List.mem_append_right)); exact rfl))
            | (apply es_box; (iterate 5 exact rfl); intro _) | (apply es_alloc hT; (iterate 5 exact rfl); intro _)
            | (apply aw_condT; (iterate 2 exact rfl)) | (apply aw_condF; (iterate 2 exact rfl))
            | (apply es_case; exact rfl; all_goals intro hb; all_goals (fail_if_success (change true = true at hb)); all_goals (fail_if_success (change false = false at hb)); all_goals (try dsimp only at hb); all_goals (try simp only [hb]); all_goals (first | replace hb := of_decide_eq_true hb | replace hb := of_decide_eq_false hb | replace hb := bne_t hb | replace hb := bne_f hb | replace hb := eq_of_beq hb | replace hb := ne_of_beq_false hb | skip); all_goals (try (exfalso; omega)))
            | (apply aw_cond; exact rfl; all_goals intro hb; all_goals (try dsimp only at hb); all_goals (try simp only [hb]); all_goals (first | replace hb := of_decide_eq_true hb | replace hb := of_decide_eq_false hb | replace hb := bne_t hb | replace hb := bne_f hb | replace hb := eq_of_beq hb | replace hb := ne_of_beq_false hb | skip); all_goals (try (exfalso; omega))))
          all_goals try (exfalso; omega)
          all_goals
            refine loopq_end (k + 1, ⟨A', c'⟩, bks ++ [⟨pk, ⟨none, 0⟩, []⟩]) (by dsimp only; omega) ⟨by dsimp only; omega, by dsimp only; rw [List.map_append, hbk, List.replicate_succ']; rfl⟩ ⟨rfl, rfl, rfl, trivial⟩ ?_
            dsimp only
            rw [List.map_append, List.flatMap_append, List.append_assoc]
            simp only [List.flatMap_cons, List.flatMap_nil, BAd.ck, Sp.sl, Sp.own, List.cons_append, List.nil_append, List.append_nil, List.length_nil]
            iterate 18 (apply dt_cons; · (repeat (first | exact sel0 | apply selS | apply selApp)))
            refine dt_mid ?_
            apply dt_cons; · (repeat (first | exact sel0 | apply selS | apply selApp))
            refine dt_mid ?_
            apply dt_cons; · (repeat (first | exact sel0 | apply selS | apply selApp))
            (repeat (first | exact dt_end | (apply dt_cons; · (repeat (first | exact sel0 | apply selS | apply selApp))) | apply dt_skip | apply dt_both))
        · obtain rfl : k = bs.length := by omega
          have hd1 : decide ((bs.length : Int) < (bs.length : Int)) = false := by simp
          repeat' (first
            | apply aw_seq | apply aw_region | apply aw_ret | apply aw_skip | apply aw_exit | apply aw_block | apply es_nil
            | (apply es_pure hT; (iterate 4 exact rfl)) | (apply es_skip; (iterate 3 exact rfl)) | (apply es_skip0; (iterate 2 exact rfl))
            | (apply es_i64 hT; (iterate 4 exact rfl); (iterate 2 (first | omega | (dsimp only; omega))))
            | (apply aw_draw [] [] hmix; decide +kernel)
            | (apply es_load; (iterate 5 exact rfl); first | (apply ld_blk hT; exact rfl; exact rfl; (repeat (first | exact List.mem_cons_self | apply List.mem_cons_of_mem | apply List.mem_append_right)); exact rfl; exact rfl) | (apply ld_all hT; exact rfl; exact rfl; (repeat (first | exact List.mem_cons_self | apply List.mem_cons_of_mem | apply List.mem_append_right)); exact rfl))
            | (apply es_box; (iterate 5 exact rfl); intro _) | (apply es_alloc hT; (iterate 5 exact rfl); intro _)
            | (apply aw_condT; (iterate 2 exact rfl)) | (apply aw_condF; (iterate 2 exact rfl))
            | (apply es_case; exact rfl; all_goals intro hb; all_goals (fail_if_success (change true = true at hb)); all_goals (fail_if_success (change false = false at hb)); all_goals (try dsimp only at hb); all_goals (try simp only [hb]); all_goals (first | replace hb := of_decide_eq_true hb | replace hb := of_decide_eq_false hb | replace hb := bne_t hb | replace hb := bne_f hb | replace hb := eq_of_beq hb | replace hb := ne_of_beq_false hb | skip); all_goals (try (exfalso; omega)))
            | (apply aw_cond; exact rfl; all_goals intro hb; all_goals (try dsimp only at hb); all_goals (try simp only [hb]); all_goals (first | replace hb := of_decide_eq_true hb | replace hb := of_decide_eq_false hb | replace hb := bne_t hb | replace hb := bne_f hb | replace hb := eq_of_beq hb | replace hb := ne_of_beq_false hb | skip); all_goals (try (exfalso; omega))))
          all_goals first
            | (exfalso; omega)
            | (apply ret1; exact rfl; exact ⟨_, dt_end, .inr ⟨by trivial, ⟨gd, pf, pq, pa, pu, pp, pb, ⟨A1, c1⟩, ⟨A2, c2⟩, sp, ⟨Af, cf⟩, ⟨Uf, uf⟩, ⟨none, 0⟩, ⟨none, 0⟩, ⟨none, 0⟩, ⟨AC, cC⟩, ⟨AR, cR⟩, ⟨none, 0⟩⟩, bks, rows, rfl, rfl, hbk, hrows⟩⟩)
            | skip
end Go.Proofs.YtjcnaeengplcbaaGreat

set_option linter.unusedSimpArgs false
set_option linter.unusedVariables false
namespace Go.Proofs.YtjcnaeengplcbaaGreat
open Go Go.Sl
attribute [local irreducible] AW ES Ld RetQ
set_option maxRecDepth 100000

theorem cloneTradeR (W : World) (h : List Chunk) (A : Option Addr) (n c : Nat) (cs : List Value) (hr : Reads W h A n 8 cs) (hb : n * 64 ≤ 140737488355328) :
    FSpec Tryz.prog W 173 [.slice A n c] h (fun v h' => ∃ A' c', v = .slice A' n c' ∧ h' = .own A' n c' 30 8 cs :: h) := by
  refine FSpec.drop ?_
  refine spec_body Tryz.func173 rfl rfl Tryz.results173 Tryz.ntmps173 rfl rfl ?_
  refine aw_reads hr rfl (fun hA => ?_)
  cases A with
  | none =>
    have hn : n = 0 := by
      rcases Nat.eq_zero_or_pos n with h | h
      · exact h
      · have := hA h; simp at this
    subst hn
    have hcs : cs = [] := List.eq_nil_of_length_eq_zero (by simpa using hr.len)
    subst hcs
    refine aw_conv (fun w hw => ⟨_, hw.own_nil 30 8, ?_⟩)
    repeat' (first
      | apply aw_seq | apply aw_region | apply aw_ret | apply aw_skip | apply aw_exit | apply aw_block | apply es_nil
      | (apply es_pure hT; (iterate 4 exact rfl)) | (apply es_skip; (iterate 3 exact rfl)) | (apply es_skip0; (iterate 2 exact rfl))
      | (apply es_i64 hT; (iterate 4 exact rfl); (iterate 2 (first | omega | (dsimp only; omega))))
      | (apply aw_draw [] [] hmix; decide +kernel)
      | (apply es_load; (iterate 5 exact rfl); first | (apply ld_blk hT; exact rfl; exact rfl; (repeat (first | exact List.mem_cons_self | apply List.mem_cons_of_mem)); exact rfl; exact rfl) | (apply ld_all hT; exact rfl; exact rfl; (repeat (first | exact List.mem_cons_self | apply List.mem_cons_of_mem)); exact rfl))
      | (apply es_box; (iterate 5 exact rfl); intro _) | (apply es_alloc hT; (iterate 5 exact rfl); intro _)
      | (apply aw_condT; (iterate 2 exact rfl)) | (apply aw_condF; (iterate 2 exact rfl))
      | (apply es_case; exact rfl; all_goals intro hb; all_goals (fail_if_success (change true = true at hb)); all_goals (fail_if_success (change false = false at hb)); all_goals (try dsimp only at hb); all_goals (try simp only [hb]); all_goals (first | replace hb := of_decide_eq_true hb | replace hb := of_decide_eq_false hb | replace hb := bne_t hb | replace hb := bne_f hb | replace hb := eq_of_beq hb | replace hb := ne_of_beq_false hb | skip); all_goals (try (exfalso; omega)))
      | (apply aw_cond; exact rfl; all_goals intro hb; all_goals (try dsimp only at hb); all_goals (try simp only [hb]); all_goals (first | replace hb := of_decide_eq_true hb | replace hb := of_decide_eq_false hb | replace hb := bne_t hb | replace hb := bne_f hb | replace hb := eq_of_beq hb | replace hb := ne_of_beq_false hb | skip); all_goals (try (exfalso; omega))))
    apply ret1; exact rfl
    exact ⟨[], _, List.Perm.refl _, none, 0, rfl, rfl⟩
  | some ad =>
    repeat' (first
      | apply aw_seq | apply aw_region | apply aw_ret | apply aw_skip | apply aw_exit | apply aw_block | apply es_nil
      | (apply es_pure hT; (iterate 4 exact rfl)) | (apply es_skip; (iterate 3 exact rfl)) | (apply es_skip0; (iterate 2 exact rfl))
      | (apply es_i64 hT; (iterate 4 exact rfl); (iterate 2 (first | omega | (dsimp only; omega))))
      | (apply aw_draw [] [] hmix; decide +kernel)
      | (apply es_buildSlice hT; (iterate 12 exact rfl); intro g1)
      | (apply es_append hT; (iterate 10 exact rfl); exact sel0; exact hr.cons; omega; (show (0 + n) * 64 ≤ _; omega); intro A' c')
      | (apply es_load; (iterate 5 exact rfl); first | (apply ld_blk hT; exact rfl; exact rfl; (repeat (first | exact List.mem_cons_self | apply List.mem_cons_of_mem)); exact rfl; exact rfl) | (apply ld_all hT; exact rfl; exact rfl; (repeat (first | exact List.mem_cons_self | apply List.mem_cons_of_mem)); exact rfl))
      | (apply es_box; (iterate 5 exact rfl); intro _) | (apply es_alloc hT; (iterate 5 exact rfl); intro _)
      | (apply aw_condT; (iterate 2 exact rfl)) | (apply aw_condF; (iterate 2 exact rfl))
      | (apply es_case; exact rfl; all_goals intro hb; all_goals (fail_if_success (change true = true at hb)); all_goals (fail_if_success (change false = false at hb)); all_goals (try dsimp only at hb); all_goals (try simp only [hb]); all_goals (first | replace hb := of_decide_eq_true hb | replace hb := of_decide_eq_false hb | replace hb := bne_t hb | replace hb := bne_f hb | replace hb := eq_of_beq hb | replace hb := ne_of_beq_false hb | skip); all_goals (try (exfalso; omega)))
      | (apply aw_cond; exact rfl; all_goals intro hb; all_goals (try dsimp only at hb); all_goals (try simp only [hb]); all_goals (first | replace hb := of_decide_eq_true hb | replace hb := of_decide_eq_false hb | replace hb := bne_t hb | replace hb := bne_f hb | replace hb := eq_of_beq hb | replace hb := ne_of_beq_false hb | skip); all_goals (try (exfalso; omega))))
    apply ret1; exact rfl
    refine ⟨[], _, List.Perm.refl _, A', c', by rw [Nat.zero_add], ?_⟩
    show Chunk.own A' (0 + n) c' 30 8 ([] ++ cs) :: h = _
    simp

end Go.Proofs.YtjcnaeengplcbaaGreat

set_option linter.unusedSimpArgs false
set_option linter.unusedVariables false
namespace Go.Proofs.YtjcnaeengplcbaaGreat
open Go Go.Sl
attribute [local irreducible] AW ES Ld RetQ
set_option maxRecDepth 100000

theorem cloneAskR (W : World) (h : List Chunk) (A : Option Addr) (n c : Nat) (cs : List Value) (hr : Reads W h A n 10 cs) (hb : n * 80 ≤ 140737488355328) :
    FSpec Tryz.prog W 199 [.slice A n c] h (fun v h' => ∃ A' c', v = .slice A' n c' ∧ h' = .own A' n c' 106 10 cs :: h) := by
  refine FSpec.drop ?_
  refine spec_body Tryz.func199 rfl rfl Tryz.results199 Tryz.ntmps199 rfl rfl ?_
  refine aw_reads hr rfl (fun hA => ?_)
  cases A with
  | none =>
    have hn : n = 0 := by
      rcases Nat.eq_zero_or_pos n with h | h
      · exact h
      · have := hA h; simp at this
    subst hn
    have hcs : cs = [] := List.eq_nil_of_length_eq_zero (by simpa using hr.len)
    subst hcs
    refine aw_conv (fun w hw => ⟨_, hw.own_nil 106 10, ?_⟩)
    repeat' (first
      | apply aw_seq | apply aw_region | apply aw_ret | apply aw_skip | apply aw_exit | apply aw_block | apply es_nil
      | (apply es_pure hT; (iterate 4 exact rfl)) | (apply es_skip; (iterate 3 exact rfl)) | (apply es_skip0; (iterate 2 exact rfl))
      | (apply es_i64 hT; (iterate 4 exact rfl); (iterate 2 omega))
      | (apply aw_draw [] [] hmix; decide +kernel)
      | (apply es_load; (iterate 5 exact rfl); first | exact ld_blk hT rfl rfl mem0 rfl rfl | exact ld_all hT rfl rfl mem0 rfl)
      | (apply es_load; (iterate 5 exact rfl); first | exact ld_blk hT rfl rfl mem1 rfl rfl | exact ld_all hT rfl rfl mem1 rfl)
      | (apply es_load; (iterate 5 exact rfl); first | exact ld_blk hT rfl rfl mem2 rfl rfl | exact ld_all hT rfl rfl mem2 rfl)
      | (apply es_box; (iterate 5 exact rfl); intro _) | (apply es_alloc hT; (iterate 5 exact rfl); intro _)
      | (apply aw_condT; (iterate 2 exact rfl)) | (apply aw_condF; (iterate 2 exact rfl))
      | (apply es_case; exact rfl; all_goals intro hb; all_goals (try simp only [hb]); all_goals (first | replace hb := of_decide_eq_true hb | replace hb := of_decide_eq_false hb | replace hb := bne_t hb | replace hb := bne_f hb | skip); all_goals (try (exfalso; omega)))
      | (apply aw_cond; exact rfl; all_goals intro hb; all_goals (try simp only [hb]); all_goals (first | replace hb := of_decide_eq_true hb | replace hb := of_decide_eq_false hb | replace hb := bne_t hb | replace hb := bne_f hb | skip); all_goals (try (exfalso; omega))))
    apply ret1; exact rfl
    exact ⟨[], _, List.Perm.refl _, none, 0, rfl, rfl⟩
  | some ad =>
    repeat' (first
      | apply aw_seq | apply aw_region | apply aw_ret | apply aw_skip | apply aw_exit | apply aw_block | apply es_nil
      | (apply es_pure hT; (iterate 4 exact rfl)) | (apply es_skip; (iterate 3 exact rfl)) | (apply es_skip0; (iterate 2 exact rfl))
      | (apply es_i64 hT; (iterate 4 exact rfl); (iterate 2 omega))
      | (apply aw_draw [] [] hmix; decide +kernel)
      | (apply es_buildSlice hT; (iterate 12 exact rfl); intro g1)
      | (apply es_append hT; (iterate 10 exact rfl); exact sel0; exact hr.cons; omega; (show (0 + n) * 80 ≤ _; omega); intro A' c')
      | (apply es_load; (iterate 5 exact rfl); first | exact ld_blk hT rfl rfl mem0 rfl rfl | exact ld_all hT rfl rfl mem0 rfl)
      | (apply es_load; (iterate 5 exact rfl); first | exact ld_blk hT rfl rfl mem1 rfl rfl | exact ld_all hT rfl rfl mem1 rfl)
      | (apply es_load; (iterate 5 exact rfl); first | exact ld_blk hT rfl rfl mem2 rfl rfl | exact ld_all hT rfl rfl mem2 rfl)
      | (apply es_box; (iterate 5 exact rfl); intro _) | (apply es_alloc hT; (iterate 5 exact rfl); intro _)
      | (apply aw_condT; (iterate 2 exact rfl)) | (apply aw_condF; (iterate 2 exact rfl))
      | (apply es_case; exact rfl; all_goals intro hb; all_goals (try simp only [hb]); all_goals (first | replace hb := of_decide_eq_true hb | replace hb := of_decide_eq_false hb | replace hb := bne_t hb | replace hb := bne_f hb | skip); all_goals (try (exfalso; omega)))
      | (apply aw_cond; exact rfl; all_goals intro hb; all_goals (try simp only [hb]); all_goals (first | replace hb := of_decide_eq_true hb | replace hb := of_decide_eq_false hb | replace hb := bne_t hb | replace hb := bne_f hb | skip); all_goals (try (exfalso; omega))))
    apply ret1; exact rfl
    refine ⟨[], _, List.Perm.refl _, A', c', by rw [Nat.zero_add], ?_⟩
    show Chunk.own A' (0 + n) c' 106 10 ([] ++ cs) :: h = _
    simp

end Go.Proofs.YtjcnaeengplcbaaGreat

set_option linter.unusedSimpArgs false
set_option linter.unusedVariables false
namespace Go.Proofs.YtjcnaeengplcbaaGreat
open Go Go.Sl
attribute [local irreducible] AW ES Ld RetQ
set_option maxRecDepth 100000

theorem indexFuncAskR (W : World) (h : List Chunk) (A : Option Addr) (n c : Nat) (l : List AskR) (hn : l.length = n) (hr : Reads W h A n 10 (l.flatMap AskR.enc)) (fn : FuncId) (cap : List Value) (p : AskR → Bool)
    (hf : ∀ x ∈ l, QSpec Tryz.prog W fn ([.agg x.enc.toArray] ++ cap) h (.bool (p x))) (hb : n ≤ 4611686018427387903) :
    QSpec Tryz.prog W 211 [.slice A n c, .func (.func fn) #[] cap.toArray] h (.int .i64 (idxOf p l)) := by
  refine QSpec.of (fun h' hs => ?_)
  have hr' := hr.mono hs
  refine spec_body Tryz.func211 rfl rfl Tryz.results211 Tryz.ntmps211 rfl rfl ?_
  refine aw_reads hr' rfl (fun hA => ?_)
  repeat' (first
    | apply aw_seq | apply aw_region | apply aw_ret | apply aw_skip | apply aw_exit | apply aw_block | apply es_nil
    | (apply es_pure hT; (iterate 4 exact rfl)) | (apply es_skip; (iterate 3 exact rfl)) | (apply es_skip0; (iterate 2 exact rfl))
    | (apply es_i64 hT; (iterate 4 exact rfl); (iterate 2 (first | omega | (dsimp only; omega))))
    | (apply aw_draw [] [] hmix; decide +kernel)
    | (apply es_load; (iterate 5 exact rfl); first | (apply ld_blk hT; exact rfl; exact rfl; (repeat (first | exact List.mem_cons_self | apply List.mem_cons_of_mem | apply List.mem_append_right)); exact rfl; exact rfl) | (apply ld_all hT; exact rfl; exact rfl; (repeat (first | exact List.mem_cons_self | apply List.mem_cons_of_mem | apply List.mem_append_right)); exact rfl))
    | (apply es_box; (iterate 5 exact rfl); intro _) | (apply es_alloc hT; (iterate 5 exact rfl); intro _)
    | (apply aw_condT; (iterate 2 exact rfl)) | (apply aw_condF; (iterate 2 exact rfl))
    | (apply es_case; exact rfl; all_goals intro hb; all_goals (fail_if_success (change true = true at hb)); all_goals (fail_if_success (change false = false at hb)); all_goals (try dsimp only at hb); all_goals (try simp only [hb]); all_goals (first | replace hb := of_decide_eq_true hb | replace hb := of_decide_eq_false hb | replace hb := bne_t hb | replace hb := bne_f hb | replace hb := eq_of_beq hb | replace hb := ne_of_beq_false hb | skip); all_goals (try (exfalso; omega)))
    | (apply aw_cond; exact rfl; all_goals intro hb; all_goals (try dsimp only at hb); all_goals (try simp only [hb]); all_goals (first | replace hb := of_decide_eq_true hb | replace hb := of_decide_eq_false hb | replace hb := bne_t hb | replace hb := bne_f hb | replace hb := eq_of_beq hb | replace hb := ne_of_beq_false hb | skip); all_goals (try (exfalso; omega))))
  refine aw_loop (α := Nat) (E := fun k => [(0, .slice A n c), (1, .func (.func fn) #[] cap.toArray), (7, .int .i64 n), (8, .int .i64 k)]) (H := fun _ => h') (μ := fun k => n - k)
    (S := fun k => k ≤ n ∧ ∀ (j : Nat) y, j < k → l[j]? = some y → p y = false) 0 (J := []) ⟨Nat.zero_le _, fun j y hj => by omega⟩ ⟨rfl, rfl, rfl, rfl, trivial⟩ (List.Perm.refl _) ?_
  rintro k ⟨hk1, hk2⟩
  by_cases hlt : k < n
  · obtain ⟨x, hx⟩ : ∃ x, l[k]? = some x := ⟨l[k]'(by omega), List.getElem?_eq_getElem (by omega)⟩
    have hx2 : l[(k : Int).toNat]? = some x := by simpa using hx
    have hfx := (hf x (List.mem_of_getElem? hx)).mono hs
    have hA' := hA (by omega)
    repeat' (first
      | apply aw_seq | apply aw_region | apply aw_ret | apply aw_skip | apply aw_exit | apply aw_block | apply es_nil
      | (apply es_pure hT; (iterate 4 exact rfl)) | (apply es_skip; (iterate 3 exact rfl)) | (apply es_skip0; (iterate 2 exact rfl))
      | (apply es_i64 hT; (iterate 4 exact rfl); (iterate 2 (first | omega | (dsimp only; omega))))
      | (apply aw_draw [] [] hmix; decide +kernel)
      | (apply es_idx hT; (iterate 8 exact rfl); (iterate 2 omega); exact hA')
      | (apply es_load; (iterate 5 exact rfl); exact ld_elem hT rfl rfl hr' AskR.enc_len rfl hx2 rfl)
      | (apply es_callQ (hs := hfx); (iterate 7 exact rfl))
      | (apply es_load; (iterate 5 exact rfl); first | (apply ld_blk hT; exact rfl; exact rfl; (repeat (first | exact List.mem_cons_self | apply List.mem_cons_of_mem | apply List.mem_append_right)); exact rfl; exact rfl) | (apply ld_all hT; exact rfl; exact rfl; (repeat (first | exact List.mem_cons_self | apply List.mem_cons_of_mem | apply List.mem_append_right)); exact rfl))
      | (apply es_box; (iterate 5 exact rfl); intro _) | (apply es_alloc hT; (iterate 5 exact rfl); intro _)
      | (apply aw_condT; (iterate 2 exact rfl)) | (apply aw_condF; (iterate 2 exact rfl))
      | (apply es_case; exact rfl; all_goals intro hb; all_goals (fail_if_success (change true = true at hb)); all_goals (fail_if_success (change false = false at hb)); all_goals (try dsimp only at hb); all_goals (try simp only [hb]); all_goals (first | replace hb := of_decide_eq_true hb | replace hb := of_decide_eq_false hb | replace hb := bne_t hb | replace hb := bne_f hb | replace hb := eq_of_beq hb | replace hb := ne_of_beq_false hb | skip); all_goals (try (exfalso; omega)))
      | (apply aw_cond; exact rfl; all_goals intro hb; all_goals (try dsimp only at hb); all_goals (try simp only [hb]); all_goals (first | replace hb := of_decide_eq_true hb | replace hb := of_decide_eq_false hb | replace hb := bne_t hb | replace hb := bne_f hb | replace hb := eq_of_beq hb | replace hb := ne_of_beq_false hb | skip); all_goals (try (exfalso; omega))))
    · exact retQ1 (J := []) rfl (by rw [idxOf_at hx hb hk2]) (List.Perm.refl _)
    · have hpx := hb
      refine ⟨k + 1, [], by dsimp only; omega, ⟨by omega, fun j y hj hy => ?_⟩, ⟨rfl, rfl, rfl, rfl, trivial⟩, List.Perm.refl _⟩
      by_cases hjk : j < k
      · exact hk2 j y hjk hy
      · obtain rfl : j = k := by omega
        rw [hx] at hy; cases hy; exact hpx
  · repeat' (first
      | apply aw_seq | apply aw_region | apply aw_ret | apply aw_skip | apply aw_exit | apply aw_block | apply es_nil
      | (apply es_pure hT; (iterate 4 exact rfl)) | (apply es_skip; (iterate 3 exact rfl)) | (apply es_skip0; (iterate 2 exact rfl))
      | (apply es_i64 hT; (iterate 4 exact rfl); (iterate 2 (first | omega | (dsimp only; omega))))
      | (apply aw_draw [] [] hmix; decide +kernel)
      | (apply es_load; (iterate 5 exact rfl); first | (apply ld_blk hT; exact rfl; exact rfl; (repeat (first | exact List.mem_cons_self | apply List.mem_cons_of_mem | apply List.mem_append_right)); exact rfl; exact rfl) | (apply ld_all hT; exact rfl; exact rfl; (repeat (first | exact List.mem_cons_self | apply List.mem_cons_of_mem | apply List.mem_append_right)); exact rfl))
      | (apply es_box; (iterate 5 exact rfl); intro _) | (apply es_alloc hT; (iterate 5 exact rfl); intro _)
      | (apply aw_condT; (iterate 2 exact rfl)) | (apply aw_condF; (iterate 2 exact rfl))
      | (apply es_case; exact rfl; all_goals intro hb; all_goals (fail_if_success (change true = true at hb)); all_goals (fail_if_success (change false = false at hb)); all_goals (try dsimp only at hb); all_goals (try simp only [hb]); all_goals (first | replace hb := of_decide_eq_true hb | replace hb := of_decide_eq_false hb | replace hb := bne_t hb | replace hb := bne_f hb | replace hb := eq_of_beq hb | replace hb := ne_of_beq_false hb | skip); all_goals (try (exfalso; omega)))
      | (apply aw_cond; exact rfl; all_goals intro hb; all_goals (try dsimp only at hb); all_goals (try simp only [hb]); all_goals (first | replace hb := of_decide_eq_true hb | replace hb := of_decide_eq_false hb | replace hb := bne_t hb | replace hb := bne_f hb | replace hb := eq_of_beq hb | replace hb := ne_of_beq_false hb | skip); all_goals (try (exfalso; omega))))
    exact retQ1 (J := []) rfl (by rw [idxOf_none (fun (j : Nat) y hj => hk2 j y (by have := (List.getElem?_eq_some_iff.1 hj).1; omega) hj)]) (List.Perm.refl _)

theorem containsFuncAskR (W : World) (h : List Chunk) (A : Option Addr) (n c : Nat) (l : List AskR) (hn : l.length = n) (hr : Reads W h A n 10 (l.flatMap AskR.enc)) (fn : FuncId) (cap : List Value) (p : AskR → Bool)
    (hf : ∀ x ∈ l, QSpec Tryz.prog W fn ([.agg x.enc.toArray] ++ cap) h (.bool (p x))) (hb : n ≤ 4611686018427387903) :
    QSpec Tryz.prog W 132 [.slice A n c, .func (.func fn) #[] cap.toArray] h (.bool (decide (idxOf p l ≥ 0))) := by
  refine QSpec.of (fun h' hs => ?_)
  refine spec_body Tryz.func132 rfl rfl Tryz.results132 Tryz.ntmps132 rfl rfl ?_
  repeat' (first
    | apply aw_seq | apply aw_region | apply aw_ret | apply aw_skip | apply aw_exit | apply aw_block | apply es_nil
    | (apply es_pure hT; (iterate 4 exact rfl)) | (apply es_skip; (iterate 3 exact rfl)) | (apply es_skip0; (iterate 2 exact rfl))
    | (apply es_i64 hT; (iterate 4 exact rfl); (iterate 2 (first | omega | (dsimp only; omega))))
    | (apply aw_draw [] [] hmix; decide +kernel)
    | (apply es_callQ (hs := ((indexFuncAskR W h A n c l hn hr fn cap p hf hb).mono hs)); (iterate 7 exact rfl))
    | (apply es_load; (iterate 5 exact rfl); first | (apply ld_blk hT; exact rfl; exact rfl; (repeat (first | exact List.mem_cons_self | apply List.mem_cons_of_mem | apply List.mem_append_right)); exact rfl; exact rfl) | (apply ld_all hT; exact rfl; exact rfl; (repeat (first | exact List.mem_cons_self | apply List.mem_cons_of_mem | apply List.mem_append_right)); exact rfl))
    | (apply es_box; (iterate 5 exact rfl); intro _) | (apply es_alloc hT; (iterate 5 exact rfl); intro _)
    | (apply aw_condT; (iterate 2 exact rfl)) | (apply aw_condF; (iterate 2 exact rfl))
    | (apply es_case; exact rfl; all_goals intro hb; all_goals (fail_if_success (change true = true at hb)); all_goals (fail_if_success (change false = false at hb)); all_goals (try dsimp only at hb); all_goals (try simp only [hb]); all_goals (first | replace hb := of_decide_eq_true hb | replace hb := of_decide_eq_false hb | replace hb := bne_t hb | replace hb := bne_f hb | replace hb := eq_of_beq hb | replace hb := ne_of_beq_false hb | skip); all_goals (try (exfalso; omega)))
    | (apply aw_cond; exact rfl; all_goals intro hb; all_goals (try dsimp only at hb); all_goals (try simp only [hb]); all_goals (first | replace hb := of_decide_eq_true hb | replace hb := of_decide_eq_false hb | replace hb := bne_t hb | replace hb := bne_f hb | replace hb := eq_of_beq hb | replace hb := ne_of_beq_false hb | skip); all_goals (try (exfalso; omega))))
  exact retQ1 (J := []) rfl rfl (List.Perm.refl _)

end Go.Proofs.YtjcnaeengplcbaaGreat

set_option linter.unusedSimpArgs false
set_option linter.unusedVariables false
namespace Go.Proofs.YtjcnaeengplcbaaGreat
open Go Go.Sl
attribute [local irreducible] AW ES EP Ld RetQ
set_option maxRecDepth 100000

theorem desk_Now (W : World) (x : DAd) (s : Dk) : QSpec Tryz.prog W 53 [ptrV x.d] [.blk x.d 176 (deskCs x s)] (.int .i64 s.now) := by
  refine QSpec.ofD (fun h' hs => ?_)
  have m0 := hs _ mem0
  refine spec_body Tryz.func53 rfl rfl Tryz.results53 Tryz.ntmps53 rfl rfl ?_
  repeat' (first
    | apply aw_seq | apply aw_region | apply aw_ret | apply aw_skip | apply aw_exit | apply aw_block | apply es_nil
    | (apply es_pure hT; (iterate 4 exact rfl)) | (apply es_skip; (iterate 3 exact rfl)) | (apply es_skip0; (iterate 2 exact rfl))
    | (apply es_i64 hT; (iterate 4 exact rfl); (iterate 2 (first | omega | (dsimp only; omega))))
    | (apply aw_draw [] [] hmix; decide +kernel)
    | (apply es_load; (iterate 5 exact rfl); first | (apply ld_blk hT; exact rfl; exact rfl; (repeat (first | exact List.mem_cons_self | exact m0 | apply List.mem_cons_of_mem | apply List.mem_append_right)); exact rfl; exact rfl) | (apply ld_all hT; exact rfl; exact rfl; (repeat (first | exact List.mem_cons_self | exact m0 | apply List.mem_cons_of_mem | apply List.mem_append_right)); exact rfl))
    | (apply es_box; (iterate 5 exact rfl); intro _) | (apply es_alloc hT; (iterate 5 exact rfl); intro _)
    | (apply aw_condT; (iterate 2 exact rfl)) | (apply aw_condF; (iterate 2 exact rfl))
    | (apply es_case; exact rfl; all_goals intro hb; all_goals (fail_if_success (change true = true at hb)); all_goals (fail_if_success (change false = false at hb)); all_goals (try dsimp only at hb); all_goals (try simp only [hb]); all_goals (first | replace hb := of_decide_eq_true hb | replace hb := of_decide_eq_false hb | replace hb := bne_t hb | replace hb := bne_f hb | replace hb := eq_of_beq hb | replace hb := ne_of_beq_false hb | skip); all_goals (try (exfalso; omega)))
    | (apply aw_cond; exact rfl; all_goals intro hb; all_goals (try dsimp only at hb); all_goals (try simp only [hb]); all_goals (first | replace hb := of_decide_eq_true hb | replace hb := of_decide_eq_false hb | replace hb := bne_t hb | replace hb := bne_f hb | replace hb := eq_of_beq hb | replace hb := ne_of_beq_false hb | skip); all_goals (try (exfalso; omega))))
  all_goals first
    | (apply ret1; exact rfl; exact ⟨rfl, by (repeat (first | exact dt_end | (apply dt_cons; · (repeat (first | exact sel0 | apply selS | apply selApp))) | apply dt_skip | apply dt_both))⟩)
    | skip
theorem desk_Pos (W : World) (x : DAd) (s : Dk) : QSpec Tryz.prog W 60 [ptrV x.d] [.blk x.d 176 (deskCs x s)] (ptrV x.p) := by
  refine QSpec.ofD (fun h' hs => ?_)
  have m0 := hs _ mem0
  refine spec_body Tryz.func60 rfl rfl Tryz.results60 Tryz.ntmps60 rfl rfl ?_
  repeat' (first
    | apply aw_seq | apply aw_region | apply aw_ret | apply aw_skip | apply aw_exit | apply aw_block | apply es_nil
    | (apply es_pure hT; (iterate 4 exact rfl)) | (apply es_skip; (iterate 3 exact rfl)) | (apply es_skip0; (iterate 2 exact rfl))
    | (apply es_i64 hT; (iterate 4 exact rfl); (iterate 2 (first | omega | (dsimp only; omega))))
    | (apply aw_draw [] [] hmix; decide +kernel)
    | (apply es_load; (iterate 5 exact rfl); first | (apply ld_blk hT; exact rfl; exact rfl; (repeat (first | exact List.mem_cons_self | exact m0 | apply List.mem_cons_of_mem | apply List.mem_append_right)); exact rfl; exact rfl) | (apply ld_all hT; exact rfl; exact rfl; (repeat (first | exact List.mem_cons_self | exact m0 | apply List.mem_cons_of_mem | apply List.mem_append_right)); exact rfl))
    | (apply es_box; (iterate 5 exact rfl); intro _) | (apply es_alloc hT; (iterate 5 exact rfl); intro _)
    | (apply aw_condT; (iterate 2 exact rfl)) | (apply aw_condF; (iterate 2 exact rfl))
    | (apply es_case; exact rfl; all_goals intro hb; all_goals (fail_if_success (change true = true at hb)); all_goals (fail_if_success (change false = false at hb)); all_goals (try dsimp only at hb); all_goals (try simp only [hb]); all_goals (first | replace hb := of_decide_eq_true hb | replace hb := of_decide_eq_false hb | replace hb := bne_t hb | replace hb := bne_f hb | replace hb := eq_of_beq hb | replace hb := ne_of_beq_false hb | skip); all_goals (try (exfalso; omega)))
    | (apply aw_cond; exact rfl; all_goals intro hb; all_goals (try dsimp only at hb); all_goals (try simp only [hb]); all_goals (first | replace hb := of_decide_eq_true hb | replace hb := of_decide_eq_false hb | replace hb := bne_t hb | replace hb := bne_f hb | replace hb := eq_of_beq hb | replace hb := ne_of_beq_false hb | skip); all_goals (try (exfalso; omega))))
  all_goals first
    | (apply ret1; exact rfl; exact ⟨rfl, by (repeat (first | exact dt_end | (apply dt_cons; · (repeat (first | exact sel0 | apply selS | apply selApp))) | apply dt_skip | apply dt_both))⟩)
    | skip
theorem blot_Head (W : World) (p : Nat) (sl : Value) (head : Int) : QSpec Tryz.prog W 127 [ptrV p] [.blk p 236 [sl, .int .u64 head]] (.int .u64 head) := by
  refine QSpec.ofD (fun h' hs => ?_)
  have m0 := hs _ mem0
  refine spec_body Tryz.func127 rfl rfl Tryz.results127 Tryz.ntmps127 rfl rfl ?_
  repeat' (first
    | apply aw_seq | apply aw_region | apply aw_ret | apply aw_skip | apply aw_exit | apply aw_block | apply es_nil
    | (apply es_pure hT; (iterate 4 exact rfl)) | (apply es_skip; (iterate 3 exact rfl)) | (apply es_skip0; (iterate 2 exact rfl))
    | (apply es_i64 hT; (iterate 4 exact rfl); (iterate 2 (first | omega | (dsimp only; omega))))
    | (apply aw_draw [] [] hmix; decide +kernel)
    | (apply es_load; (iterate 5 exact rfl); first | (apply ld_blk hT; exact rfl; exact rfl; (repeat (first | exact List.mem_cons_self | exact m0 | apply List.mem_cons_of_mem | apply List.mem_append_right)); exact rfl; exact rfl) | (apply ld_all hT; exact rfl; exact rfl; (repeat (first | exact List.mem_cons_self | exact m0 | apply List.mem_cons_of_mem | apply List.mem_append_right)); exact rfl))
    | (apply es_box; (iterate 5 exact rfl); intro _) | (apply es_alloc hT; (iterate 5 exact rfl); intro _)
    | (apply aw_condT; (iterate 2 exact rfl)) | (apply aw_condF; (iterate 2 exact rfl))
    | (apply es_case; exact rfl; all_goals intro hb; all_goals (fail_if_success (change true = true at hb)); all_goals (fail_if_success (change false = false at hb)); all_goals (try dsimp only at hb); all_goals (try simp only [hb]); all_goals (first | replace hb := of_decide_eq_true hb | replace hb := of_decide_eq_false hb | replace hb := bne_t hb | replace hb := bne_f hb | replace hb := eq_of_beq hb | replace hb := ne_of_beq_false hb | skip); all_goals (try (exfalso; omega)))
    | (apply aw_cond; exact rfl; all_goals intro hb; all_goals (try dsimp only at hb); all_goals (try simp only [hb]); all_goals (first | replace hb := of_decide_eq_true hb | replace hb := of_decide_eq_false hb | replace hb := bne_t hb | replace hb := bne_f hb | replace hb := eq_of_beq hb | replace hb := ne_of_beq_false hb | skip); all_goals (try (exfalso; omega))))
  all_goals first
    | (apply ret1; exact rfl; exact ⟨rfl, by (repeat (first | exact dt_end | (apply dt_cons; · (repeat (first | exact sel0 | apply selS | apply selApp))) | apply dt_skip | apply dt_both))⟩)
    | skip
theorem desk_Head (W : World) (x : DAd) (s : Dk) (sl : Value) : QSpec Tryz.prog W 56 [ptrV x.d] [.blk x.d 176 (deskCs x s), .blk x.b 236 [sl, .int .u64 s.head]] (.int .u64 s.head) := by
  refine QSpec.ofD (fun h' hs => ?_)
  have m0 := hs _ mem0
  have m1 := hs _ mem1
  refine spec_body Tryz.func56 rfl rfl Tryz.results56 Tryz.ntmps56 rfl rfl ?_
  repeat' (first
    | apply aw_seq | apply aw_region | apply aw_ret | apply aw_skip | apply aw_exit | apply aw_block | apply es_nil
    | (apply es_pure hT; (iterate 4 exact rfl)) | (apply es_skip; (iterate 3 exact rfl)) | (apply es_skip0; (iterate 2 exact rfl))
    | (apply es_i64 hT; (iterate 4 exact rfl); (iterate 2 (first | omega | (dsimp only; omega))))
    | (apply aw_draw [] [] hmix; decide +kernel)
    | (apply es_callQ (hs := ((blot_Head W x.b sl s.head).mono (by intro c hc; rw [List.mem_singleton.1 hc]; exact m1))); (iterate 7 exact rfl))
    | (apply es_load; (iterate 5 exact rfl); first | (apply ld_blk hT; exact rfl; exact rfl; (repeat (first | exact List.mem_cons_self | exact m0 | apply List.mem_cons_of_mem | apply List.mem_append_right)); exact rfl; exact rfl) | (apply ld_all hT; exact rfl; exact rfl; (repeat (first | exact List.mem_cons_self | exact m0 | apply List.mem_cons_of_mem | apply List.mem_append_right)); exact rfl))
    | (apply es_box; (iterate 5 exact rfl); intro _) | (apply es_alloc hT; (iterate 5 exact rfl); intro _)
    | (apply aw_condT; (iterate 2 exact rfl)) | (apply aw_condF; (iterate 2 exact rfl))
    | (apply es_case; exact rfl; all_goals intro hb; all_goals (fail_if_success (change true = true at hb)); all_goals (fail_if_success (change false = false at hb)); all_goals (try dsimp only at hb); all_goals (try simp only [hb]); all_goals (first | replace hb := of_decide_eq_true hb | replace hb := of_decide_eq_false hb | replace hb := bne_t hb | replace hb := bne_f hb | replace hb := eq_of_beq hb | replace hb := ne_of_beq_false hb | skip); all_goals (try (exfalso; omega)))
    | (apply aw_cond; exact rfl; all_goals intro hb; all_goals (try dsimp only at hb); all_goals (try simp only [hb]); all_goals (first | replace hb := of_decide_eq_true hb | replace hb := of_decide_eq_false hb | replace hb := bne_t hb | replace hb := bne_f hb | replace hb := eq_of_beq hb | replace hb := ne_of_beq_false hb | skip); all_goals (try (exfalso; omega))))
  all_goals first
    | (apply ret1; exact rfl; exact ⟨rfl, by (repeat (first | exact dt_end | (apply dt_cons; · (repeat (first | exact sel0 | apply selS | apply selApp))) | apply dt_skip | apply dt_both))⟩)
    | skip
theorem desk_isBond (W : World) (x : DAd) (s : Dk) (n : Int) : QSpec Tryz.prog W 107 [ptrV x.d, .int .i64 n] [.blk x.d 176 (deskCs x s)] (.bool (decide (n ≥ 0) && decide (n < s.books.length))) := by
  refine QSpec.ofD (fun h' hs => ?_)
  have m0 := hs _ mem0
  refine spec_body Tryz.func107 rfl rfl Tryz.results107 Tryz.ntmps107 rfl rfl ?_
  repeat' (first
    | apply aw_seq | apply aw_region | apply aw_ret | apply aw_skip | apply aw_exit | apply aw_block | apply es_nil
    | (apply es_pure hT; (iterate 4 exact rfl)) | (apply es_skip; (iterate 3 exact rfl)) | (apply es_skip0; (iterate 2 exact rfl))
    | (apply es_i64 hT; (iterate 4 exact rfl); (iterate 2 (first | omega | (dsimp only; omega))))
    | (apply aw_draw [] [] hmix; decide +kernel)
    | (apply es_load; (iterate 5 exact rfl); first | (apply ld_blk hT; exact rfl; exact rfl; (repeat (first | exact List.mem_cons_self | exact m0 | apply List.mem_cons_of_mem | apply List.mem_append_right)); exact rfl; exact rfl) | (apply ld_all hT; exact rfl; exact rfl; (repeat (first | exact List.mem_cons_self | exact m0 | apply List.mem_cons_of_mem | apply List.mem_append_right)); exact rfl))
    | (apply es_box; (iterate 5 exact rfl); intro _) | (apply es_alloc hT; (iterate 5 exact rfl); intro _)
    | (apply aw_condT; (iterate 2 exact rfl)) | (apply aw_condF; (iterate 2 exact rfl))
    | (apply es_case; exact rfl; all_goals intro hb; all_goals (fail_if_success (change true = true at hb)); all_goals (fail_if_success (change false = false at hb)); all_goals (try dsimp only at hb); all_goals (try simp only [hb]); all_goals (first | replace hb := of_decide_eq_true hb | replace hb := of_decide_eq_false hb | replace hb := bne_t hb | replace hb := bne_f hb | replace hb := eq_of_beq hb | replace hb := ne_of_beq_false hb | skip); all_goals (try (exfalso; omega)))
    | (apply aw_cond; exact rfl; all_goals intro hb; all_goals (try dsimp only at hb); all_goals (try simp only [hb]); all_goals (first | replace hb := of_decide_eq_true hb | replace hb := of_decide_eq_false hb | replace hb := bne_t hb | replace hb := bne_f hb | replace hb := eq_of_beq hb | replace hb := ne_of_beq_false hb | skip); all_goals (try (exfalso; omega))))
  all_goals first
    | (apply ret1; exact rfl; exact ⟨by (first | (simp_all; done) | (simp; omega)), by (repeat (first | exact dt_end | (apply dt_cons; · (repeat (first | exact sel0 | apply selS | apply selApp))) | apply dt_skip | apply dt_both))⟩)
    | skip
theorem desk_Book (W : World) (x : DAd) (s : Dk) (bks : List BAd) (i : Nat) (b : BAd) (hl : bks.length = s.books.length) (hi : bks[i]? = some b) (h4 : bks.length ≤ 1000000) :
    QSpec Tryz.prog W 45 [ptrV x.d, .int .i64 i] [.blk x.d 176 (deskCs x s), x.books.own s.books.length 37 1 (bks.map BAd.ptr)] (ptrV b.p) := by
  refine QSpec.ofD (fun h' hs => ?_)
  have m0 := hs _ mem0
  have m1 := hs _ mem1
  have hil := (List.getElem?_eq_some_iff.1 hi).1
  have hB := (desk_isBond W x s i).cast (u := .bool true) (by simp; omega)
  have hrd : Reads W h' x.books.A s.books.length 1 (bks.map BAd.ptr) := Reads.own m1 (by simp [hl]) (fun v hv => by
    obtain ⟨y, _, rfl⟩ := List.mem_map.1 hv
    rfl)
  have hix : (bks.map BAd.ptr)[(i : Int).toNat * 1]? = some (ptrV b.p) := by simp [hi]; rfl
  refine spec_body Tryz.func45 rfl rfl Tryz.results45 Tryz.ntmps45 rfl rfl ?_
  refine aw_reads hrd rfl (fun hA => ?_)
  have hA' := hA (by omega)
  repeat' (first
    | apply aw_seq | apply aw_region | apply aw_ret | apply aw_skip | apply aw_exit | apply aw_block | apply es_nil
    | (apply es_pure hT; (iterate 4 exact rfl)) | (apply es_skip; (iterate 3 exact rfl)) | (apply es_skip0; (iterate 2 exact rfl))
    | (apply es_i64 hT; (iterate 4 exact rfl); (iterate 2 (first | omega | (dsimp only; omega))))
    | (apply aw_draw [] [] hmix; decide +kernel)
    | (apply es_callQ (hs := (hB.mono (by intro c hc; rw [List.mem_singleton.1 hc]; exact m0))); (iterate 7 exact rfl))
    | (apply es_idx hT; (iterate 8 exact rfl); (iterate 2 omega); exact hA')
    | (apply es_load; (iterate 5 exact rfl); exact ld_row hT rfl rfl hrd rfl hix)
    | (apply es_load; (iterate 5 exact rfl); first | (apply ld_blk hT; exact rfl; exact rfl; (repeat (first | exact List.mem_cons_self | exact m0 | apply List.mem_cons_of_mem | apply List.mem_append_right)); exact rfl; exact rfl) | (apply ld_all hT; exact rfl; exact rfl; (repeat (first | exact List.mem_cons_self | exact m0 | apply List.mem_cons_of_mem | apply List.mem_append_right)); exact rfl))
    | (apply es_box; (iterate 5 exact rfl); intro _) | (apply es_alloc hT; (iterate 5 exact rfl); intro _)
    | (apply aw_condT; (iterate 2 exact rfl)) | (apply aw_condF; (iterate 2 exact rfl))
    | (apply es_case; exact rfl; all_goals intro hb; all_goals (fail_if_success (change true = true at hb)); all_goals (fail_if_success (change false = false at hb)); all_goals (try dsimp only at hb); all_goals (try simp only [hb]); all_goals (first | replace hb := of_decide_eq_true hb | replace hb := of_decide_eq_false hb | replace hb := bne_t hb | replace hb := bne_f hb | replace hb := eq_of_beq hb | replace hb := ne_of_beq_false hb | skip); all_goals (try (exfalso; omega)))
    | (apply aw_cond; exact rfl; all_goals intro hb; all_goals (try dsimp only at hb); all_goals (try simp only [hb]); all_goals (first | replace hb := of_decide_eq_true hb | replace hb := of_decide_eq_false hb | replace hb := bne_t hb | replace hb := bne_f hb | replace hb := eq_of_beq hb | replace hb := ne_of_beq_false hb | skip); all_goals (try (exfalso; omega))))
  all_goals first
    | (apply ret1; exact rfl; exact ⟨rfl, by (repeat (first | exact dt_end | (apply dt_cons; · (repeat (first | exact sel0 | apply selS | apply selApp))) | apply dt_skip | apply dt_both))⟩)
    | skip
theorem blot_List (W : World) (h : List Chunk) (p : Nat) (A : Option Addr) (c : Nat) (l : List TradeR) (hv : Value) (m0 : Chunk.blk p 236 [.slice A l.length c, hv] ∈ h) (m1 : Chunk.own A l.length c 30 8 (l.flatMap TradeR.enc) ∈ h) (hb : l.length ≤ 1000000) :
    FSpec Tryz.prog W 106 [ptrV p] h (fun v h' => ∃ A' c', v = .slice A' l.length c' ∧ h' = .own A' l.length c' 30 8 (l.flatMap TradeR.enc) :: h) := by
  have hrd : Reads W h A l.length 8 (l.flatMap TradeR.enc) := Reads.own m1 (flat_len TradeR.enc_len _) (fun v hv => by
    obtain ⟨y, _, hy⟩ := List.mem_flatMap.1 hv
    exact TradeR.enc_one y v hy)
  refine FSpec.dropTo ?_
  refine spec_body Tryz.func106 rfl rfl Tryz.results106 Tryz.ntmps106 rfl rfl ?_
  repeat' (first
    | apply aw_seq | apply aw_region | apply aw_ret | apply aw_skip | apply aw_exit | apply aw_block | apply es_nil
    | (apply es_pure hT; (iterate 4 exact rfl)) | (apply es_skip; (iterate 3 exact rfl)) | (apply es_skip0; (iterate 2 exact rfl))
    | (apply es_i64 hT; (iterate 4 exact rfl); (iterate 2 (first | omega | (dsimp only; omega))))
    | (apply aw_draw [] [] hmix; decide +kernel)
    | (apply es_call (hs := (cloneTradeR W _ A l.length c (l.flatMap TradeR.enc) hrd (by omega))); (iterate 7 exact rfl); rintro _ _ ⟨A1, c1, rfl, rfl⟩)
    | (apply es_load; (iterate 5 exact rfl); first | (apply ld_blk hT; exact rfl; exact rfl; (repeat (first | exact List.mem_cons_self | exact m0 | apply List.mem_cons_of_mem | apply List.mem_append_right)); exact rfl; exact rfl) | (apply ld_all hT; exact rfl; exact rfl; (repeat (first | exact List.mem_cons_self | exact m0 | apply List.mem_cons_of_mem | apply List.mem_append_right)); exact rfl))
    | (apply es_box; (iterate 5 exact rfl); intro _) | (apply es_alloc hT; (iterate 5 exact rfl); intro _)
    | (apply aw_condT; (iterate 2 exact rfl)) | (apply aw_condF; (iterate 2 exact rfl))
    | (apply es_case; exact rfl; all_goals intro hb; all_goals (fail_if_success (change true = true at hb)); all_goals (fail_if_success (change false = false at hb)); all_goals (try dsimp only at hb); all_goals (try simp only [hb]); all_goals (first | replace hb := of_decide_eq_true hb | replace hb := of_decide_eq_false hb | replace hb := bne_t hb | replace hb := bne_f hb | replace hb := eq_of_beq hb | replace hb := ne_of_beq_false hb | skip); all_goals (try (exfalso; omega)))
    | (apply aw_cond; exact rfl; all_goals intro hb; all_goals (try dsimp only at hb); all_goals (try simp only [hb]); all_goals (first | replace hb := of_decide_eq_true hb | replace hb := of_decide_eq_false hb | replace hb := bne_t hb | replace hb := bne_f hb | replace hb := eq_of_beq hb | replace hb := ne_of_beq_false hb | skip); all_goals (try (exfalso; omega))))
  all_goals first
    | (apply ret1; exact rfl; exact ⟨_, dt_end, A1, c1, rfl, rfl⟩)
    | skip
theorem desk_Trades (W : World) (h : List Chunk) (x : DAd) (s : Dk) (m0 : Chunk.blk x.d 176 (deskCs x s) ∈ h) (m1 : Chunk.blk x.b 236 [x.trades.sl s.trades.length, .int .u64 s.head] ∈ h) (m2 : x.trades.own s.trades.length 30 8 (s.trades.flatMap TradeR.enc) ∈ h) (hb : s.trades.length ≤ 1000000) :
    FSpec Tryz.prog W 40 [ptrV x.d] h (fun v h' => ∃ A' c', v = .slice A' s.trades.length c' ∧ h' = .own A' s.trades.length c' 30 8 (s.trades.flatMap TradeR.enc) :: h) := by
  refine FSpec.dropTo ?_
  have hL := blot_List W h x.b x.trades.A x.trades.c s.trades (.int .u64 s.head) m1 m2 hb
  refine spec_body Tryz.func40 rfl rfl Tryz.results40 Tryz.ntmps40 rfl rfl ?_
  repeat' (first
    | apply aw_seq | apply aw_region | apply aw_ret | apply aw_skip | apply aw_exit | apply aw_block | apply es_nil
    | (apply es_pure hT; (iterate 4 exact rfl)) | (apply es_skip; (iterate 3 exact rfl)) | (apply es_skip0; (iterate 2 exact rfl))
    | (apply es_i64 hT; (iterate 4 exact rfl); (iterate 2 (first | omega | (dsimp only; omega))))
    | (apply aw_draw [] [] hmix; decide +kernel)
    | (apply es_call (hs := hL); (iterate 7 exact rfl); rintro _ _ ⟨A1, c1, rfl, rfl⟩)
    | (apply es_load; (iterate 5 exact rfl); first | (apply ld_blk hT; exact rfl; exact rfl; (repeat (first | exact List.mem_cons_self | exact m0 | apply List.mem_cons_of_mem | apply List.mem_append_right)); exact rfl; exact rfl) | (apply ld_all hT; exact rfl; exact rfl; (repeat (first | exact List.mem_cons_self | exact m0 | apply List.mem_cons_of_mem | apply List.mem_append_right)); exact rfl))
    | (apply es_box; (iterate 5 exact rfl); intro _) | (apply es_alloc hT; (iterate 5 exact rfl); intro _)
    | (apply aw_condT; (iterate 2 exact rfl)) | (apply aw_condF; (iterate 2 exact rfl))
    | (apply es_case; exact rfl; all_goals intro hb; all_goals (fail_if_success (change true = true at hb)); all_goals (fail_if_success (change false = false at hb)); all_goals (try dsimp only at hb); all_goals (try simp only [hb]); all_goals (first | replace hb := of_decide_eq_true hb | replace hb := of_decide_eq_false hb | replace hb := bne_t hb | replace hb := bne_f hb | replace hb := eq_of_beq hb | replace hb := ne_of_beq_false hb | skip); all_goals (try (exfalso; omega)))
    | (apply aw_cond; exact rfl; all_goals intro hb; all_goals (try dsimp only at hb); all_goals (try simp only [hb]); all_goals (first | replace hb := of_decide_eq_true hb | replace hb := of_decide_eq_false hb | replace hb := bne_t hb | replace hb := bne_f hb | replace hb := eq_of_beq hb | replace hb := ne_of_beq_false hb | skip); all_goals (try (exfalso; omega))))
  all_goals first
    | (apply ret1; exact rfl; exact ⟨_, dt_end, A1, c1, rfl, rfl⟩)
    | skip
theorem ask_AllT (W : World) (h : List Chunk) (p : Nat) (A : Option Addr) (c : Nat) (l : List AskR) (m0 : Chunk.blk p 232 [.slice A l.length c] ∈ h) (m1 : Chunk.own A l.length c 106 10 (l.flatMap AskR.enc) ∈ h) (hb : l.length ≤ 1000000) :
    FSpec Tryz.prog W 126 [ptrV p] h (fun v h' => ∃ A' c', v = .slice A' l.length c' ∧ h' = .own A' l.length c' 106 10 (l.flatMap AskR.enc) :: h) := by
  have hrd : Reads W h A l.length 10 (l.flatMap AskR.enc) := Reads.own m1 (flat_len AskR.enc_len _) (fun v hv => by
    obtain ⟨y, _, hy⟩ := List.mem_flatMap.1 hv
    exact AskR.enc_one y v hy)
  refine FSpec.dropTo ?_
  refine spec_body Tryz.func126 rfl rfl Tryz.results126 Tryz.ntmps126 rfl rfl ?_
  repeat' (first
    | apply aw_seq | apply aw_region | apply aw_ret | apply aw_skip | apply aw_exit | apply aw_block | apply es_nil
    | (apply es_pure hT; (iterate 4 exact rfl)) | (apply es_skip; (iterate 3 exact rfl)) | (apply es_skip0; (iterate 2 exact rfl))
    | (apply es_i64 hT; (iterate 4 exact rfl); (iterate 2 (first | omega | (dsimp only; omega))))
    | (apply aw_draw [] [] hmix; decide +kernel)
    | (apply es_call (hs := (cloneAskR W _ A l.length c (l.flatMap AskR.enc) hrd (by omega))); (iterate 7 exact rfl); rintro _ _ ⟨A1, c1, rfl, rfl⟩)
    | (apply es_load; (iterate 5 exact rfl); first | (apply ld_blk hT; exact rfl; exact rfl; (repeat (first | exact List.mem_cons_self | exact m0 | apply List.mem_cons_of_mem | apply List.mem_append_right)); exact rfl; exact rfl) | (apply ld_all hT; exact rfl; exact rfl; (repeat (first | exact List.mem_cons_self | exact m0 | apply List.mem_cons_of_mem | apply List.mem_append_right)); exact rfl))
    | (apply es_box; (iterate 5 exact rfl); intro _) | (apply es_alloc hT; (iterate 5 exact rfl); intro _)
    | (apply aw_condT; (iterate 2 exact rfl)) | (apply aw_condF; (iterate 2 exact rfl))
    | (apply es_case; exact rfl; all_goals intro hb; all_goals (fail_if_success (change true = true at hb)); all_goals (fail_if_success (change false = false at hb)); all_goals (try dsimp only at hb); all_goals (try simp only [hb]); all_goals (first | replace hb := of_decide_eq_true hb | replace hb := of_decide_eq_false hb | replace hb := bne_t hb | replace hb := bne_f hb | replace hb := eq_of_beq hb | replace hb := ne_of_beq_false hb | skip); all_goals (try (exfalso; omega)))
    | (apply aw_cond; exact rfl; all_goals intro hb; all_goals (try dsimp only at hb); all_goals (try simp only [hb]); all_goals (first | replace hb := of_decide_eq_true hb | replace hb := of_decide_eq_false hb | replace hb := bne_t hb | replace hb := bne_f hb | replace hb := eq_of_beq hb | replace hb := ne_of_beq_false hb | skip); all_goals (try (exfalso; omega))))
  all_goals first
    | (apply ret1; exact rfl; exact ⟨_, dt_end, A1, c1, rfl, rfl⟩)
    | skip
theorem desk_Asks (W : World) (h : List Chunk) (x : DAd) (s : Dk) (m0 : Chunk.blk x.d 176 (deskCs x s) ∈ h) (m1 : Chunk.blk x.a 232 [x.asks.sl s.asks.length] ∈ h) (m2 : x.asks.own s.asks.length 106 10 (s.asks.flatMap AskR.enc) ∈ h) (hb : s.asks.length ≤ 1000000) :
    FSpec Tryz.prog W 55 [ptrV x.d] h (fun v h' => ∃ A' c', v = .slice A' s.asks.length c' ∧ h' = .own A' s.asks.length c' 106 10 (s.asks.flatMap AskR.enc) :: h) := by
  refine FSpec.dropTo ?_
  have hL := ask_AllT W h x.a x.asks.A x.asks.c s.asks m1 m2 hb
  refine spec_body Tryz.func55 rfl rfl Tryz.results55 Tryz.ntmps55 rfl rfl ?_
  repeat' (first
    | apply aw_seq | apply aw_region | apply aw_ret | apply aw_skip | apply aw_exit | apply aw_block | apply es_nil
    | (apply es_pure hT; (iterate 4 exact rfl)) | (apply es_skip; (iterate 3 exact rfl)) | (apply es_skip0; (iterate 2 exact rfl))
    | (apply es_i64 hT; (iterate 4 exact rfl); (iterate 2 (first | omega | (dsimp only; omega))))
    | (apply aw_draw [] [] hmix; decide +kernel)
    | (apply es_call (hs := hL); (iterate 7 exact rfl); rintro _ _ ⟨A1, c1, rfl, rfl⟩)
    | (apply es_load; (iterate 5 exact rfl); first | (apply ld_blk hT; exact rfl; exact rfl; (repeat (first | exact List.mem_cons_self | exact m0 | apply List.mem_cons_of_mem | apply List.mem_append_right)); exact rfl; exact rfl) | (apply ld_all hT; exact rfl; exact rfl; (repeat (first | exact List.mem_cons_self | exact m0 | apply List.mem_cons_of_mem | apply List.mem_append_right)); exact rfl))
    | (apply es_box; (iterate 5 exact rfl); intro _) | (apply es_alloc hT; (iterate 5 exact rfl); intro _)
    | (apply aw_condT; (iterate 2 exact rfl)) | (apply aw_condF; (iterate 2 exact rfl))
    | (apply es_case; exact rfl; all_goals intro hb; all_goals (fail_if_success (change true = true at hb)); all_goals (fail_if_success (change false = false at hb)); all_goals (try dsimp only at hb); all_goals (try simp only [hb]); all_goals (first | replace hb := of_decide_eq_true hb | replace hb := of_decide_eq_false hb | replace hb := bne_t hb | replace hb := bne_f hb | replace hb := eq_of_beq hb | replace hb := ne_of_beq_false hb | skip); all_goals (try (exfalso; omega)))
    | (apply aw_cond; exact rfl; all_goals intro hb; all_goals (try dsimp only at hb); all_goals (try simp only [hb]); all_goals (first | replace hb := of_decide_eq_true hb | replace hb := of_decide_eq_false hb | replace hb := bne_t hb | replace hb := bne_f hb | replace hb := eq_of_beq hb | replace hb := ne_of_beq_false hb | skip); all_goals (try (exfalso; omega))))
  all_goals first
    | (apply ret1; exact rfl; exact ⟨_, dt_end, A1, c1, rfl, rfl⟩)
    | skip
end Go.Proofs.YtjcnaeengplcbaaGreat

set_option linter.unusedSimpArgs false
set_option linter.unusedVariables false
namespace Go.Proofs.YtjcnaeengplcbaaGreat
open Go Go.Sl

def at0 {α : Type} (l : List α) (i : Int) : Option α := if i < 0 then none else l[i.toNat]?
def inW (n : Int) : Prop := -9223372036854775808 ≤ n ∧ n ≤ 9223372036854775807
def inI (n : Int) : Bool := inB n (-9223372036854775808) 9223372036854775807
theorem inI_t {n : Int} (h : inI n = true) : -9223372036854775808 ≤ n ∧ n ≤ 9223372036854775807 := inB_t h
theorem inI_f {n : Int} (h : inI n = false) : n < -9223372036854775808 ∨ 9223372036854775807 < n := inB_f h
structure Ps where
  cash : List Int
  pos : List (List Int)
def posOf (p : Ps) (who bond : Int) : Int := ((at0 p.pos who).bind fun r => at0 r bond).getD 0
def cashOf (p : Ps) (who : Int) : Int := (at0 p.cash who).getD 0
def isPos (p : Ps) (who bond : Int) : Bool := decide (0 ≤ who) && (decide (who < p.cash.length) && (decide (0 ≤ bond) && decide (bond < ((at0 p.pos who).getD []).length)))
def putE (p : Ps) (t : TradeR) : Int :=
  if isPos p t.buyer t.bond = false ∨ isPos p t.seller t.bond = false ∨ t.buyer = t.seller ∨ t.price < 1 ∨ t.qty < 1 then 1
  else if inI (t.price * t.qty) && inI (posOf p t.buyer t.bond + t.qty) && inI (posOf p t.seller t.bond - t.qty) && inI (cashOf p t.buyer - t.price * t.qty) && inI (cashOf p t.seller + t.price * t.qty) then 0 else 15
def setRow (l : List (List Int)) (who bond n : Int) : List (List Int) := l.set who.toNat (((at0 l who).getD []).set bond.toNat n)
def putP (p : Ps) (t : TradeR) : Ps :=
  if putE p t = 0 then ⟨(p.cash.set t.buyer.toNat (cashOf p t.buyer - t.price * t.qty)).set t.seller.toNat (cashOf p t.seller + t.price * t.qty),
    setRow (setRow p.pos t.buyer t.bond (posOf p t.buyer t.bond + t.qty)) t.seller t.bond (posOf p t.seller t.bond - t.qty)⟩ else p
theorem set_perm {α : Type} : ∀ {l : List α} {i : Nat}, i < l.length → ∃ R, ∀ a, (l.set i a).Perm (a :: R)
  | [], i, h => absurd h (Nat.not_lt_zero _)
  | x :: l, 0, _ => ⟨l, fun a => List.Perm.refl _⟩
  | x :: l, i + 1, h => by
    obtain ⟨R, hR⟩ := set_perm (l := l) (i := i) (by simpa using h)
    exact ⟨x :: R, fun a => ((hR a).cons x).trans (List.Perm.swap _ _ _)⟩
theorem set2_perm {α : Type} : ∀ {l : List α} {i j : Nat}, i < l.length → j < l.length → i ≠ j → ∃ R, ∀ a b, ((l.set i a).set j b).Perm (a :: b :: R)
  | [], i, j, h, _, _ => absurd h (Nat.not_lt_zero _)
  | x :: l, 0, 0, _, _, h => absurd rfl h
  | x :: l, 0, j + 1, _, h, _ => by
    obtain ⟨R, hR⟩ := set_perm (l := l) (i := j) (by simpa using h)
    exact ⟨R, fun a b => (hR b).cons a⟩
  | x :: l, i + 1, 0, h, _, _ => by
    obtain ⟨R, hR⟩ := set_perm (l := l) (i := i) (by simpa using h)
    exact ⟨R, fun a b => ((hR a).cons b).trans (List.Perm.swap _ _ _)⟩
  | x :: l, i + 1, j + 1, h1, h2, h3 => by
    obtain ⟨R, hR⟩ := set2_perm (l := l) (i := i) (j := j) (by simpa using h1) (by simpa using h2) (by omega)
    exact ⟨x :: R, fun a b => ((hR a b).cons x).trans (((List.Perm.swap a x _).trans ((List.Perm.swap b x R).cons a)))⟩
theorem set_self {α : Type} {l : List α} {i : Nat} {a : α} (h : l[i]? = some a) : l.set i a = l := by
  obtain ⟨hi, rfl⟩ := List.getElem?_eq_some_iff.1 h
  exact List.set_getElem_self hi
end Go.Proofs.YtjcnaeengplcbaaGreat

set_option linter.unusedSimpArgs false
set_option linter.unusedVariables false
namespace Go.Proofs.YtjcnaeengplcbaaGreat
open Go Go.Sl
attribute [local irreducible] AW ES EP Ld RetQ
set_option maxRecDepth 100000

theorem fix_AddT (W : World) (a b : Int) (ha : inW a) (hb : inW b) (h : inW (a + b)) : QSpec Tryz.prog W 74 [.int .i64 a, .int .i64 b] [] (.tuple #[.int .i64 (a + b), .bool true]) := by
  unfold inW at *
  refine QSpec.ofD (fun h' hs => ?_)
  refine spec_body Tryz.func74 rfl rfl Tryz.results74 Tryz.ntmps74 rfl rfl ?_
  repeat' (first
    | apply aw_seq | apply aw_region | apply aw_ret | apply aw_skip | apply aw_exit | apply aw_block | apply es_nil
    | (apply es_pure hT; (iterate 4 exact rfl)) | (apply es_skip; (iterate 3 exact rfl)) | (apply es_skip0; (iterate 2 exact rfl))
    | (apply es_i64 hT; (iterate 4 exact rfl); (iterate 2 (first | omega | (dsimp only; omega))))
    | (apply aw_draw [] [] hmix; decide +kernel)
    | (apply es_load; (iterate 5 exact rfl); first | (apply ld_blk hT; exact rfl; exact rfl; (repeat (first | exact List.mem_cons_self | apply List.mem_cons_of_mem | apply List.mem_append_right)); exact rfl; exact rfl) | (apply ld_all hT; exact rfl; exact rfl; (repeat (first | exact List.mem_cons_self | apply List.mem_cons_of_mem | apply List.mem_append_right)); exact rfl))
    | (apply es_box; (iterate 5 exact rfl); intro _) | (apply es_alloc hT; (iterate 5 exact rfl); intro _)
    | (apply aw_condT; (iterate 2 exact rfl)) | (apply aw_condF; (iterate 2 exact rfl))
    | (apply es_case; exact rfl; all_goals intro hb; all_goals (fail_if_success (change true = true at hb)); all_goals (fail_if_success (change false = false at hb)); all_goals (try dsimp only at hb); all_goals (try simp only [hb]); all_goals (first | replace hb := of_decide_eq_true hb | replace hb := of_decide_eq_false hb | replace hb := bne_t hb | replace hb := bne_f hb | replace hb := eq_of_beq hb | replace hb := ne_of_beq_false hb | skip); all_goals (try (exfalso; omega)))
    | (apply aw_cond; exact rfl; all_goals intro hb; all_goals (try dsimp only at hb); all_goals (try simp only [hb]); all_goals (first | replace hb := of_decide_eq_true hb | replace hb := of_decide_eq_false hb | replace hb := bne_t hb | replace hb := bne_f hb | replace hb := eq_of_beq hb | replace hb := ne_of_beq_false hb | skip); all_goals (try (exfalso; omega))))
  all_goals first
    | (exfalso; omega)
    | (apply ret2; exact rfl; exact rfl; exact ⟨rfl, by (repeat (first | exact dt_end | (apply dt_cons; · (repeat (first | exact sel0 | apply selS | apply selApp))) | apply dt_skip | apply dt_both))⟩)
    | skip
theorem audit_past (W : World) (a b tick : Int) (ha : inW a) (hb : inW b) (h : inW (a + b)) : QSpec Tryz.prog W 138 [.int .i64 a, .int .i64 b, .int .i64 tick] [] (.bool (decide (a + b ≤ tick))) := by
  refine QSpec.ofD (fun h' hs => ?_)
  refine spec_body Tryz.func138 rfl rfl Tryz.results138 Tryz.ntmps138 rfl rfl ?_
  repeat' (first
    | apply aw_seq | apply aw_region | apply aw_ret | apply aw_skip | apply aw_exit | apply aw_block | apply es_nil
    | (apply es_pure hT; (iterate 4 exact rfl)) | (apply es_skip; (iterate 3 exact rfl)) | (apply es_skip0; (iterate 2 exact rfl))
    | (apply es_i64 hT; (iterate 4 exact rfl); (iterate 2 (first | omega | (dsimp only; omega))))
    | (apply aw_draw [] [] hmix; decide +kernel)
    | (apply es_callQ (hs := ((fix_AddT W a b ha hb h).mono (by simp))); (iterate 7 exact rfl))
    | (apply es_load; (iterate 5 exact rfl); first | (apply ld_blk hT; exact rfl; exact rfl; (repeat (first | exact List.mem_cons_self | apply List.mem_cons_of_mem | apply List.mem_append_right)); exact rfl; exact rfl) | (apply ld_all hT; exact rfl; exact rfl; (repeat (first | exact List.mem_cons_self | apply List.mem_cons_of_mem | apply List.mem_append_right)); exact rfl))
    | (apply es_box; (iterate 5 exact rfl); intro _) | (apply es_alloc hT; (iterate 5 exact rfl); intro _)
    | (apply aw_condT; (iterate 2 exact rfl)) | (apply aw_condF; (iterate 2 exact rfl))
    | (apply es_case; exact rfl; all_goals intro hb; all_goals (fail_if_success (change true = true at hb)); all_goals (fail_if_success (change false = false at hb)); all_goals (try dsimp only at hb); all_goals (try simp only [hb]); all_goals (first | replace hb := of_decide_eq_true hb | replace hb := of_decide_eq_false hb | replace hb := bne_t hb | replace hb := bne_f hb | replace hb := eq_of_beq hb | replace hb := ne_of_beq_false hb | skip); all_goals (try (exfalso; omega)))
    | (apply aw_cond; exact rfl; all_goals intro hb; all_goals (try dsimp only at hb); all_goals (try simp only [hb]); all_goals (first | replace hb := of_decide_eq_true hb | replace hb := of_decide_eq_false hb | replace hb := bne_t hb | replace hb := bne_f hb | replace hb := eq_of_beq hb | replace hb := ne_of_beq_false hb | skip); all_goals (try (exfalso; omega))))
  all_goals first
    | (exfalso; omega)
    | (apply ret1; exact rfl; exact ⟨rfl, by (repeat (first | exact dt_end | (apply dt_cons; · (repeat (first | exact sel0 | apply selS | apply selApp))) | apply dt_skip | apply dt_both))⟩)
    | skip
def endedA (tick look : Int) (a : AskR) : Bool := !(a.state != 3 && a.state != 4 && decide (a.ends + look ≤ tick))
def endedV (l : List AskR) (tick look : Int) : Bool := l.all (endedA tick look)
theorem all_bad {α : Type} {q : α → Bool} {l : List α} {x : α} (hx : x ∈ l) (h : q x = false) : l.all q = false := by
  rw [List.all_eq_false]
  exact ⟨x, hx, by rw [h]; decide⟩
theorem all_good {α : Type} {q : α → Bool} {l : List α} (h : ∀ (j : Nat) y, j < l.length → l[j]? = some y → q y = true) : l.all q = true := by
  rw [List.all_eq_true]
  intro x hx
  obtain ⟨i, hi⟩ := List.getElem?_of_mem hx
  exact h i x (List.getElem?_eq_some_iff.1 hi).1 hi
theorem audit_Ended (W : World) (h : List Chunk) (A : Option Addr) (c : Nat) (l : List AskR) (tick look : Int) (hr : Reads W h A l.length 10 (l.flatMap AskR.enc)) (hb : l.length ≤ 1000000) (hlk : inW look) (hok : ∀ a ∈ l, inW a.ends ∧ inW (a.ends + look)) :
    QSpec Tryz.prog W 83 [.slice A l.length c, .int .i64 tick, .int .i64 look] h (.bool (endedV l tick look)) := by
  refine QSpec.ofD (fun h' hs => ?_)
  have hrd := hr.mono hs
  refine spec_body Tryz.func83 rfl rfl Tryz.results83 Tryz.ntmps83 rfl rfl ?_
  refine aw_reads hrd rfl (fun hA => ?_)
  repeat' (first
    | apply aw_seq | apply aw_region | apply aw_ret | apply aw_skip | apply aw_exit | apply aw_block | apply es_nil
    | (apply es_pure hT; (iterate 4 exact rfl)) | (apply es_skip; (iterate 3 exact rfl)) | (apply es_skip0; (iterate 2 exact rfl))
    | (apply es_i64 hT; (iterate 4 exact rfl); (iterate 2 (first | omega | (dsimp only; omega))))
    | (apply aw_draw [] [] hmix; decide +kernel)
    | (apply es_load; (iterate 5 exact rfl); first | (apply ld_blk hT; exact rfl; exact rfl; (repeat (first | exact List.mem_cons_self | apply List.mem_cons_of_mem | apply List.mem_append_right)); exact rfl; exact rfl) | (apply ld_all hT; exact rfl; exact rfl; (repeat (first | exact List.mem_cons_self | apply List.mem_cons_of_mem | apply List.mem_append_right)); exact rfl))
    | (apply es_box; (iterate 5 exact rfl); intro _) | (apply es_alloc hT; (iterate 5 exact rfl); intro _)
    | (apply aw_condT; (iterate 2 exact rfl)) | (apply aw_condF; (iterate 2 exact rfl))
    | (apply es_case; exact rfl; all_goals intro hb; all_goals (fail_if_success (change true = true at hb)); all_goals (fail_if_success (change false = false at hb)); all_goals (try dsimp only at hb); all_goals (try simp only [hb]); all_goals (first | replace hb := of_decide_eq_true hb | replace hb := of_decide_eq_false hb | replace hb := bne_t hb | replace hb := bne_f hb | replace hb := eq_of_beq hb | replace hb := ne_of_beq_false hb | skip); all_goals (try (exfalso; omega)))
    | (apply aw_cond; exact rfl; all_goals intro hb; all_goals (try dsimp only at hb); all_goals (try simp only [hb]); all_goals (first | replace hb := of_decide_eq_true hb | replace hb := of_decide_eq_false hb | replace hb := bne_t hb | replace hb := bne_f hb | replace hb := eq_of_beq hb | replace hb := ne_of_beq_false hb | skip); all_goals (try (exfalso; omega))))
  refine aw_loopD (α := Nat) (E := fun k => [(1, .int .i64 tick), (2, .int .i64 look), (10, .slice A l.length c), (11, .int .i64 l.length), (12, .int .i64 k)]) (H := fun _ => h') (μ := fun k => l.length - k)
    (S := fun k => k ≤ l.length ∧ ∀ (j : Nat) y, j < k → l[j]? = some y → endedA tick look y = true) 0 ⟨Nat.zero_le _, fun j y hj => absurd hj (Nat.not_lt_zero _)⟩ ⟨rfl, rfl, rfl, rfl, rfl, trivial⟩ (by (repeat (first | exact dt_end | (apply dt_cons; · (repeat (first | exact sel0 | apply selS | apply selApp))) | apply dt_skip | apply dt_both))) ?_
  rintro k ⟨hk, hgd⟩
  by_cases hlt : k < l.length
  · obtain ⟨x, hx⟩ : ∃ x, l[k]? = some x := ⟨l[k]'(by omega), List.getElem?_eq_getElem (by omega)⟩
    have hx2 : l[(k : Int).toNat]? = some x := by simpa using hx
    have hA' := hA (by omega)
    have hd1 : decide ((k : Int) < (l.length : Int)) = true := by simp; omega
    have hxm := List.mem_of_getElem? hx
    obtain ⟨w1, w2⟩ := hok x hxm
    unfold inW at w1 w2
    cases he : endedA tick look x
    · repeat' (first
        | apply aw_seq | apply aw_region | apply aw_ret | apply aw_skip | apply aw_exit | apply aw_block | apply es_nil
        | (apply es_pure hT; (iterate 4 exact rfl)) | (apply es_skip; (iterate 3 exact rfl)) | (apply es_skip0; (iterate 2 exact rfl))
        | (apply es_i64 hT; (iterate 4 exact rfl); (iterate 2 (first | omega | (dsimp only; omega))))
        | (apply aw_draw [] [] hmix; decide +kernel)
        | (apply es_idx hT; (iterate 8 exact rfl); (iterate 2 omega); exact hA')
        | (apply es_load; (iterate 5 exact rfl); exact ld_elem hT rfl rfl (hrd.mono (by (intro c hc; (repeat (first | exact hc | apply List.mem_cons_of_mem | apply List.mem_append_right))))) AskR.enc_len rfl hx2 rfl)
        | (apply es_store hT; (iterate 6 exact rfl); (repeat (first | exact sel0 | apply selS | apply selApp)); (iterate 3 exact rfl); exact Nat.le_of_ble_eq_true rfl)
        | (apply es_callQ (hs := ((audit_past W x.ends look tick (by unfold inW; omega) hlk (by unfold inW; omega)).mono (by simp))); (iterate 7 exact rfl))
        | (apply es_load; (iterate 5 exact rfl); first | (apply ld_blk hT; exact rfl; exact rfl; (repeat (first | exact List.mem_cons_self | apply List.mem_cons_of_mem | apply List.mem_append_right)); exact rfl; exact rfl) | (apply ld_all hT; exact rfl; exact rfl; (repeat (first | exact List.mem_cons_self | apply List.mem_cons_of_mem | apply List.mem_append_right)); exact rfl))
        | (apply es_box; (iterate 5 exact rfl); intro _) | (apply es_alloc hT; (iterate 5 exact rfl); intro _)
        | (apply aw_condT; (iterate 2 exact rfl)) | (apply aw_condF; (iterate 2 exact rfl))
        | (apply es_case; exact rfl; all_goals intro hb; all_goals (fail_if_success (change true = true at hb)); all_goals (fail_if_success (change false = false at hb)); all_goals (try dsimp only at hb); all_goals (try simp only [hb]); all_goals (first | replace hb := of_decide_eq_true hb | replace hb := of_decide_eq_false hb | replace hb := bne_t hb | replace hb := bne_f hb | replace hb := eq_of_beq hb | replace hb := ne_of_beq_false hb | skip); all_goals (try (exfalso; omega)))
        | (apply aw_cond; exact rfl; all_goals intro hb; all_goals (try dsimp only at hb); all_goals (try simp only [hb]); all_goals (first | replace hb := of_decide_eq_true hb | replace hb := of_decide_eq_false hb | replace hb := bne_t hb | replace hb := bne_f hb | replace hb := eq_of_beq hb | replace hb := ne_of_beq_false hb | skip); all_goals (try (exfalso; omega))))
      all_goals first
        | (exfalso; simp [endedA] at he; omega)
        | (apply ret1; exact rfl; exact ⟨by rw [show endedV l tick look = false from all_bad hxm he], by (repeat (first | exact dt_end | (apply dt_cons; · (repeat (first | exact sel0 | apply selS | apply selApp))) | apply dt_skip | apply dt_both))⟩)
        | skip
    · repeat' (first
        | apply aw_seq | apply aw_region | apply aw_ret | apply aw_skip | apply aw_exit | apply aw_block | apply es_nil
        | (apply es_pure hT; (iterate 4 exact rfl)) | (apply es_skip; (iterate 3 exact rfl)) | (apply es_skip0; (iterate 2 exact rfl))
        | (apply es_i64 hT; (iterate 4 exact rfl); (iterate 2 (first | omega | (dsimp only; omega))))
        | (apply aw_draw [] [] hmix; decide +kernel)
        | (apply es_idx hT; (iterate 8 exact rfl); (iterate 2 omega); exact hA')
        | (apply es_load; (iterate 5 exact rfl); exact ld_elem hT rfl rfl (hrd.mono (by (intro c hc; (repeat (first | exact hc | apply List.mem_cons_of_mem | apply List.mem_append_right))))) AskR.enc_len rfl hx2 rfl)
        | (apply es_store hT; (iterate 6 exact rfl); (repeat (first | exact sel0 | apply selS | apply selApp)); (iterate 3 exact rfl); exact Nat.le_of_ble_eq_true rfl)
        | (apply es_callQ (hs := ((audit_past W x.ends look tick (by unfold inW; omega) hlk (by unfold inW; omega)).mono (by simp))); (iterate 7 exact rfl))
        | (apply es_load; (iterate 5 exact rfl); first | (apply ld_blk hT; exact rfl; exact rfl; (repeat (first | exact List.mem_cons_self | apply List.mem_cons_of_mem | apply List.mem_append_right)); exact rfl; exact rfl) | (apply ld_all hT; exact rfl; exact rfl; (repeat (first | exact List.mem_cons_self | apply List.mem_cons_of_mem | apply List.mem_append_right)); exact rfl))
        | (apply es_box; (iterate 5 exact rfl); intro _) | (apply es_alloc hT; (iterate 5 exact rfl); intro _)
        | (apply aw_condT; (iterate 2 exact rfl)) | (apply aw_condF; (iterate 2 exact rfl))
        | (apply es_case; exact rfl; all_goals intro hb; all_goals (fail_if_success (change true = true at hb)); all_goals (fail_if_success (change false = false at hb)); all_goals (try dsimp only at hb); all_goals (try simp only [hb]); all_goals (first | replace hb := of_decide_eq_true hb | replace hb := of_decide_eq_false hb | replace hb := bne_t hb | replace hb := bne_f hb | replace hb := eq_of_beq hb | replace hb := ne_of_beq_false hb | skip); all_goals (try (exfalso; omega)))
        | (apply aw_cond; exact rfl; all_goals intro hb; all_goals (try dsimp only at hb); all_goals (try simp only [hb]); all_goals (first | replace hb := of_decide_eq_true hb | replace hb := of_decide_eq_false hb | replace hb := bne_t hb | replace hb := bne_f hb | replace hb := eq_of_beq hb | replace hb := ne_of_beq_false hb | skip); all_goals (try (exfalso; omega))))
      all_goals first
        | (exfalso; simp [endedA] at he; omega)
        | exact loopq_end (k + 1) (by (try dsimp only); omega) ⟨by (try dsimp only); omega, fun j y hj hy => by
            by_cases hjk : j = k
            · rw [hjk, hx] at hy; cases hy; exact he
            · exact hgd j y (by (try dsimp only at hj); omega) hy⟩ ⟨rfl, rfl, rfl, rfl, rfl, trivial⟩ (by (repeat (first | exact dt_end | (apply dt_cons; · (repeat (first | exact sel0 | apply selS | apply selApp))) | apply dt_skip | apply dt_both)))
        | skip
  · obtain rfl : k = l.length := by omega
    have hd1 : decide ((l.length : Int) < (l.length : Int)) = false := by simp
    repeat' (first
      | apply aw_seq | apply aw_region | apply aw_ret | apply aw_skip | apply aw_exit | apply aw_block | apply es_nil
      | (apply es_pure hT; (iterate 4 exact rfl)) | (apply es_skip; (iterate 3 exact rfl)) | (apply es_skip0; (iterate 2 exact rfl))
      | (apply es_i64 hT; (iterate 4 exact rfl); (iterate 2 (first | omega | (dsimp only; omega))))
      | (apply aw_draw [] [] hmix; decide +kernel)
      | (apply es_load; (iterate 5 exact rfl); first | (apply ld_blk hT; exact rfl; exact rfl; (repeat (first | exact List.mem_cons_self | apply List.mem_cons_of_mem | apply List.mem_append_right)); exact rfl; exact rfl) | (apply ld_all hT; exact rfl; exact rfl; (repeat (first | exact List.mem_cons_self | apply List.mem_cons_of_mem | apply List.mem_append_right)); exact rfl))
      | (apply es_box; (iterate 5 exact rfl); intro _) | (apply es_alloc hT; (iterate 5 exact rfl); intro _)
      | (apply aw_condT; (iterate 2 exact rfl)) | (apply aw_condF; (iterate 2 exact rfl))
      | (apply es_case; exact rfl; all_goals intro hb; all_goals (fail_if_success (change true = true at hb)); all_goals (fail_if_success (change false = false at hb)); all_goals (try dsimp only at hb); all_goals (try simp only [hb]); all_goals (first | replace hb := of_decide_eq_true hb | replace hb := of_decide_eq_false hb | replace hb := bne_t hb | replace hb := bne_f hb | replace hb := eq_of_beq hb | replace hb := ne_of_beq_false hb | skip); all_goals (try (exfalso; omega)))
      | (apply aw_cond; exact rfl; all_goals intro hb; all_goals (try dsimp only at hb); all_goals (try simp only [hb]); all_goals (first | replace hb := of_decide_eq_true hb | replace hb := of_decide_eq_false hb | replace hb := bne_t hb | replace hb := bne_f hb | replace hb := eq_of_beq hb | replace hb := ne_of_beq_false hb | skip); all_goals (try (exfalso; omega))))
    all_goals first
      | (exfalso; omega)
      | (apply ret1; exact rfl; exact ⟨by rw [show endedV l tick look = true from all_good hgd], by (repeat (first | exact dt_end | (apply dt_cons; · (repeat (first | exact sel0 | apply selS | apply selApp))) | apply dt_skip | apply dt_both))⟩)
      | skip
end Go.Proofs.YtjcnaeengplcbaaGreat

set_option linter.unusedSimpArgs false
set_option linter.unusedVariables false
namespace Go.Sl
open Go Go.RowKit Go.MapKept

section
variable {P : Program} {W : World} {T : Tab} {N : Nat} {env : Env} {h h' : List Chunk} {kf : KF} {ops : Array Oper} {K : Env → List Chunk → Prop} {o : Oper} {rest : List Oper}

theorem es_makeMap {b : Bool} {d : Tmp} {ty pos af g} {t : TypeId} (hg : evalG ops env g = some b) (hb : b = true) (hd : Nat.blt d N = true) (hk : (kf.kd ⟨some d, .makeMap t none, ty, pos, af, g⟩).wr = true)
    (hK : ∀ g', ES P W N kf ops rest ((d, (.map (some g'))) :: env) (.map g' [] :: h) K) : ES P W N kf ops (⟨some d, .makeMap t none, ty, pos, af, g⟩ :: rest) env h K := fun a ha => by
  subst hb
  refine opI_of_write (it := mkItem kf ops ⟨some d, .makeMap t none, ty, pos, af, g⟩) (evalG_ok ha hg) (wr_of hk) (fun w hw => ?_)
  have e : (execOp a.eval ⟨some d, .makeMap t none, ty, pos, af, g⟩).run P w = .ok (.value (.map (some w.heap.size))) (w.alloc (.map #[] 0)) := rfl
  unfold Oper.wp
  show Oper.upon P _ a _ _ ((execOp a.eval ⟨some d, .makeMap t none, ty, pos, af, g⟩).run P w)
  rw [e]
  refine ⟨.map w.heap.size [] :: h, ?_, hK w.heap.size _ (ha.put (d := some d) hd)⟩
  exact hw.add (World.grownBy_alloc w _ none) ⟨hw.below.size, #[], 0, heap_alloc_new w _, rfl⟩ (fun g hg => by simp [Chunk.keys] at hg; omega)

end
end Go.Sl

set_option linter.unusedSimpArgs false
set_option linter.unusedVariables false
namespace Go.Proofs.YtjcnaeengplcbaaGreat
open Go Go.Sl
attribute [local irreducible] AW ES EP Ld RetQ
set_option maxRecDepth 100000

theorem reads_nil {W : World} {h : List Chunk} {A : Option Addr} {k : Nat} : Reads W h A 0 k [] := ⟨by simp, by simp, fun w hw j v hj => by simp at hj⟩
theorem blot_Heads0 (W : World) (A : Option Addr) (c : Nat) : QSpec Tryz.prog W 131 [.slice A 0 c] [] (.slice none 0 0) := by
  refine QSpec.ofD (fun h' hs => ?_)
  refine spec_body Tryz.func131 rfl rfl Tryz.results131 Tryz.ntmps131 rfl rfl ?_
  repeat' (first
    | apply aw_seq | apply aw_region | apply aw_ret | apply aw_skip | apply aw_exit | apply aw_block | apply es_nil
    | (apply es_pure hT; (iterate 4 exact rfl)) | (apply es_skip; (iterate 3 exact rfl)) | (apply es_skip0; (iterate 2 exact rfl))
    | (apply es_i64 hT; (iterate 4 exact rfl); (iterate 2 (first | omega | (dsimp only; omega))))
    | (apply aw_draw [] [] hmix; decide +kernel)
    | (apply es_load; (iterate 5 exact rfl); first | (apply ld_blk hT; exact rfl; exact rfl; (repeat (first | exact List.mem_cons_self | apply List.mem_cons_of_mem | apply List.mem_append_right)); exact rfl; exact rfl) | (apply ld_all hT; exact rfl; exact rfl; (repeat (first | exact List.mem_cons_self | apply List.mem_cons_of_mem | apply List.mem_append_right)); exact rfl))
    | (apply es_box; (iterate 5 exact rfl); intro _) | (apply es_alloc hT; (iterate 5 exact rfl); intro _)
    | (apply aw_condT; (iterate 2 exact rfl)) | (apply aw_condF; (iterate 2 exact rfl))
    | (apply es_case; exact rfl; all_goals intro hb; all_goals (fail_if_success (change true = true at hb)); all_goals (fail_if_success (change false = false at hb)); all_goals (try dsimp only at hb); all_goals (try simp only [hb]); all_goals (first | replace hb := of_decide_eq_true hb | replace hb := of_decide_eq_false hb | replace hb := bne_t hb | replace hb := bne_f hb | replace hb := eq_of_beq hb | replace hb := ne_of_beq_false hb | skip); all_goals (try (exfalso; omega)))
    | (apply aw_cond; exact rfl; all_goals intro hb; all_goals (try dsimp only at hb); all_goals (try simp only [hb]); all_goals (first | replace hb := of_decide_eq_true hb | replace hb := of_decide_eq_false hb | replace hb := bne_t hb | replace hb := bne_f hb | replace hb := eq_of_beq hb | replace hb := ne_of_beq_false hb | skip); all_goals (try (exfalso; omega))))
  refine aw_loopD (α := Unit) (E := fun _ => [(3, .slice none 0 0), (8, .int .i64 0), (9, .int .i64 0)]) (H := fun _ => h') (μ := fun _ => 0) (S := fun _ => True) () trivial ⟨rfl, rfl, rfl, trivial⟩ (by (repeat (first | exact dt_end | (apply dt_cons; · (repeat (first | exact sel0 | apply selS | apply selApp))) | apply dt_skip | apply dt_both))) ?_
  intro _ _
  have hd1 : decide ((0 : Int) < 0) = false := by decide
  repeat' (first
    | apply aw_seq | apply aw_region | apply aw_ret | apply aw_skip | apply aw_exit | apply aw_block | apply es_nil
    | (apply es_pure hT; (iterate 4 exact rfl)) | (apply es_skip; (iterate 3 exact rfl)) | (apply es_skip0; (iterate 2 exact rfl))
    | (apply es_i64 hT; (iterate 4 exact rfl); (iterate 2 (first | omega | (dsimp only; omega))))
    | (apply aw_draw [] [] hmix; decide +kernel)
    | (apply es_load; (iterate 5 exact rfl); first | (apply ld_blk hT; exact rfl; exact rfl; (repeat (first | exact List.mem_cons_self | apply List.mem_cons_of_mem | apply List.mem_append_right)); exact rfl; exact rfl) | (apply ld_all hT; exact rfl; exact rfl; (repeat (first | exact List.mem_cons_self | apply List.mem_cons_of_mem | apply List.mem_append_right)); exact rfl))
    | (apply es_box; (iterate 5 exact rfl); intro _) | (apply es_alloc hT; (iterate 5 exact rfl); intro _)
    | (apply aw_condT; (iterate 2 exact rfl)) | (apply aw_condF; (iterate 2 exact rfl))
    | (apply es_case; exact rfl; all_goals intro hb; all_goals (fail_if_success (change true = true at hb)); all_goals (fail_if_success (change false = false at hb)); all_goals (try dsimp only at hb); all_goals (try simp only [hb]); all_goals (first | replace hb := of_decide_eq_true hb | replace hb := of_decide_eq_false hb | replace hb := bne_t hb | replace hb := bne_f hb | replace hb := eq_of_beq hb | replace hb := ne_of_beq_false hb | skip); all_goals (try (exfalso; omega)))
    | (apply aw_cond; exact rfl; all_goals intro hb; all_goals (try dsimp only at hb); all_goals (try simp only [hb]); all_goals (first | replace hb := of_decide_eq_true hb | replace hb := of_decide_eq_false hb | replace hb := bne_t hb | replace hb := bne_f hb | replace hb := eq_of_beq hb | replace hb := ne_of_beq_false hb | skip); all_goals (try (exfalso; omega))))
  all_goals first
    | (exfalso; omega)
    | (apply ret1; exact rfl; exact ⟨rfl, by (repeat (first | exact dt_end | (apply dt_cons; · (repeat (first | exact sel0 | apply selS | apply selApp))) | apply dt_skip | apply dt_both))⟩)
    | skip
theorem audit_Once0 (W : World) (A : Option Addr) (c : Nat) (A2 : Option Addr) (c2 : Nat) : QSpec Tryz.prog W 70 [.slice A 0 c, .slice A2 0 c2] [] (.bool true) := by
  refine QSpec.ofD (fun h' hs => ?_)
  have hcf := fun k (g : Nat) => containsFuncAskR W k A 0 c [] rfl reads_nil 135 [.pointer (some ⟨g, 0, none⟩)] (fun _ => false) (fun x hx => by cases hx) (by omega)
  refine spec_body Tryz.func70 rfl rfl Tryz.results70 Tryz.ntmps70 rfl rfl ?_
  repeat' (first
    | apply aw_seq | apply aw_region | apply aw_ret | apply aw_skip | apply aw_exit | apply aw_block | apply es_nil
    | (apply es_pure hT; (iterate 4 exact rfl)) | (apply es_skip; (iterate 3 exact rfl)) | (apply es_skip0; (iterate 2 exact rfl))
    | (apply es_i64 hT; (iterate 4 exact rfl); (iterate 2 (first | omega | (dsimp only; omega))))
    | (apply aw_draw [] [] hmix; decide +kernel)
    | (apply es_makeMap; (iterate 4 exact rfl); intro gm)
    | (apply es_alloc hT; (iterate 5 exact rfl); first | ((fail_if_success (have q := g5)); intro g5) | intro _)
    | (apply es_store hT; (iterate 6 exact rfl); (repeat (first | exact sel0 | apply selS | apply selApp)); (iterate 3 exact rfl); exact Nat.le_of_ble_eq_true rfl)
    | (apply es_load; (iterate 5 exact rfl); first | (apply ld_blk hT; exact rfl; exact rfl; (repeat (first | exact List.mem_cons_self | apply List.mem_cons_of_mem | apply List.mem_append_right)); exact rfl; exact rfl) | (apply ld_all hT; exact rfl; exact rfl; (repeat (first | exact List.mem_cons_self | apply List.mem_cons_of_mem | apply List.mem_append_right)); exact rfl))
    | (apply es_box; (iterate 5 exact rfl); intro _) | (apply es_alloc hT; (iterate 5 exact rfl); intro _)
    | (apply aw_condT; (iterate 2 exact rfl)) | (apply aw_condF; (iterate 2 exact rfl))
    | (apply es_case; exact rfl; all_goals intro hb; all_goals (fail_if_success (change true = true at hb)); all_goals (fail_if_success (change false = false at hb)); all_goals (try dsimp only at hb); all_goals (try simp only [hb]); all_goals (first | replace hb := of_decide_eq_true hb | replace hb := of_decide_eq_false hb | replace hb := bne_t hb | replace hb := bne_f hb | replace hb := eq_of_beq hb | replace hb := ne_of_beq_false hb | skip); all_goals (try (exfalso; omega)))
    | (apply aw_cond; exact rfl; all_goals intro hb; all_goals (try dsimp only at hb); all_goals (try simp only [hb]); all_goals (first | replace hb := of_decide_eq_true hb | replace hb := of_decide_eq_false hb | replace hb := bne_t hb | replace hb := bne_f hb | replace hb := eq_of_beq hb | replace hb := ne_of_beq_false hb | skip); all_goals (try (exfalso; omega))))
  refine aw_loopD (α := Unit) (E := fun _ => [(0, .slice A 0 c), (5, .pointer (some ⟨g5, 0, none⟩)), (10, .int .i64 0), (11, .int .i64 0)]) (H := fun _ => h') (μ := fun _ => 0) (S := fun _ => True) () trivial ⟨rfl, rfl, rfl, rfl, trivial⟩ (by (repeat (first | exact dt_end | (apply dt_cons; · (repeat (first | exact sel0 | apply selS | apply selApp))) | apply dt_skip | apply dt_both))) ?_
  intro _ _
  have hd1 : decide ((0 : Int) < 0) = false := by decide
  repeat' (first
    | apply aw_seq | apply aw_region | apply aw_ret | apply aw_skip | apply aw_exit | apply aw_block | apply es_nil
    | (apply es_pure hT; (iterate 4 exact rfl)) | (apply es_skip; (iterate 3 exact rfl)) | (apply es_skip0; (iterate 2 exact rfl))
    | (apply es_i64 hT; (iterate 4 exact rfl); (iterate 2 (first | omega | (dsimp only; omega))))
    | (apply aw_draw [] [] hmix; decide +kernel)
    | (apply es_callQ (hs := (hcf _ g5)); (iterate 7 exact rfl))
    | (apply es_load; (iterate 5 exact rfl); first | (apply ld_blk hT; exact rfl; exact rfl; (repeat (first | exact List.mem_cons_self | apply List.mem_cons_of_mem | apply List.mem_append_right)); exact rfl; exact rfl) | (apply ld_all hT; exact rfl; exact rfl; (repeat (first | exact List.mem_cons_self | apply List.mem_cons_of_mem | apply List.mem_append_right)); exact rfl))
    | (apply es_box; (iterate 5 exact rfl); intro _) | (apply es_alloc hT; (iterate 5 exact rfl); intro _)
    | (apply aw_condT; (iterate 2 exact rfl)) | (apply aw_condF; (iterate 2 exact rfl))
    | (apply es_case; exact rfl; all_goals intro hb; all_goals (fail_if_success (change true = true at hb)); all_goals (fail_if_success (change false = false at hb)); all_goals (try dsimp only at hb); all_goals (try simp only [hb]); all_goals (first | replace hb := of_decide_eq_true hb | replace hb := of_decide_eq_false hb | replace hb := bne_t hb | replace hb := bne_f hb | replace hb := eq_of_beq hb | replace hb := ne_of_beq_false hb | skip); all_goals (try (exfalso; omega)))
    | (apply aw_cond; exact rfl; all_goals intro hb; all_goals (try dsimp only at hb); all_goals (try simp only [hb]); all_goals (first | replace hb := of_decide_eq_true hb | replace hb := of_decide_eq_false hb | replace hb := bne_t hb | replace hb := bne_f hb | replace hb := eq_of_beq hb | replace hb := ne_of_beq_false hb | skip); all_goals (try (exfalso; omega))))
  all_goals first
    | (exfalso; omega)
    | (apply ret1; exact rfl; exact ⟨by simp [idxOf], by (repeat (first | exact dt_end | (apply dt_cons; · (repeat (first | exact sel0 | apply selS | apply selApp))) | apply dt_skip | apply dt_both))⟩)
    | skip
end Go.Proofs.YtjcnaeengplcbaaGreat

