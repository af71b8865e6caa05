/- The statement's walk, and what it stands on, joined into few texts: part 5. Conditions stand in each statement. -/
import Derived.Maps.AppendAt
import Derived.Laws.CopyOwn
import Derived.Laws.MakeOwn
import Derived.Laws.StructEq
import Derived.Deep.Quiet
import Derived.Below
import Derived.Tactics
import Derived.IntWalk
import Derived.Lib.Overlaps
import Derived.Test.YtjcnaeengplcbaaGreatRows
import Derived.OpenShut
import Derived.ChangeSame
import Derived.ProofKit
import Derived.WideKeyArgs
import Derived.Deep.Slices
import Derived.Deep.Fields
import Derived.Test.YtjcnaeengplcbaaGreatChecked
import Derived.KernelRfl
import Derived.MapKept
import Derived.Shelf.SlSortCmp.NoneTotal
import Derived.Ground.SlsfProg
import Derived.WalkKit
import Derived.Sort.Grow
import Derived.Lib.Mul64
import Derived.Laws.Bits64b
import Derived.Test.YtjcnaeengplcbaaGreatBndBooks4
set_option linter.unusedSimpArgs false
set_option linter.unusedVariables false
namespace Go.Proofs.YtjcnaeengplcbaaGreat
open Go Go.Sl
attribute [local irreducible] AW ES EP Ld RetQ
set_option maxRecDepth 100000

theorem pos_Put (W : World) (F : List Chunk) (p : Nat) (AC : Option Addr) (cC : Nat) (AR : Option Addr) (cR : Nat) (cash : List Int) (rs : List PRow) (np nb : Nat) (hP : PsOK np nb (psOf cash rs)) (t : TradeR) (hpr : inW t.price) (hqt : inW t.qty) :
    FSpec Tryz.prog W 21 [.pointer (some ⟨p, 0, none⟩), .agg t.enc.toArray] (posTab p AC cC AR cR cash rs F) (fun v h' => v = .int .i64 (putE (psOf cash rs) t) ∧ ∃ cash' rs', psOf cash' rs' = putP (psOf cash rs) t ∧ h' = posTab p AC cC AR cR cash' rs' F) := by
  by_cases hbad : isPos (psOf cash rs) t.buyer t.bond = false ∨ isPos (psOf cash rs) t.seller t.bond = false ∨ t.buyer = t.seller ∨ t.price < 1 ∨ t.qty < 1
  · have hE : putE (psOf cash rs) t = 1 := by unfold putE; rw [if_pos hbad]
    refine (pos_PutBad W F p AC cC AR cR cash rs np nb hP t hbad).mono (fun v h' hh => ?_)
    obtain ⟨rfl, rfl⟩ := hh
    exact ⟨by rw [hE], cash, rs, by unfold putP; rw [if_neg (by rw [hE]; omega)], rfl⟩
  · exact pos_PutOk W F p AC cC AR cR cash rs np nb hP t hpr hqt hbad
theorem isPosN_in {np nb : Nat} (h : (1 ≤ np ∧ np ≤ 8) ∧ 1 ≤ nb ∧ nb ≤ 4) : isPosN np nb = true := by
  unfold isPosN; simp; omega
theorem pos_NewT (W : World) (h : List Chunk) (np nb : Nat) (hn : (1 ≤ np ∧ np ≤ 8) ∧ 1 ≤ nb ∧ nb ≤ 4) : FSpec Tryz.prog W 19 [.int .i64 np, .int .i64 nb] h
    (fun v h' => ∃ p AC cC AR cR cash rs, v = .pointer (some ⟨p, 0, none⟩) ∧ psOf cash rs = zeroPs np nb ∧ h' = posTab p AC cC AR cR cash rs h) := by
  refine (pos_New W h np nb).mono (fun v h' hh => ?_)
  rcases hh with ⟨h1, _⟩ | ⟨_, p, AC, cC, AR, cR, rs, rfl, rfl, hrs⟩
  · rw [isPosN_in hn] at h1; cases h1
  · exact ⟨p, AC, cC, AR, cR, _, rs, rfl, by unfold psOf zeroPs; rw [hrs]; rfl, rfl⟩
theorem eqPs_step {np nb : Nat} {w p : Ps} {k : Nat} (h : ∀ j, j < k → eqOne nb w p j = true) (hk : eqOne nb w p k = true) : ∀ j, j < k + 1 → eqOne nb w p j = true := fun j hj => by
  by_cases e : j = k
  · rw [e]; exact hk
  · exact h j (by omega)
theorem eqPs_all {np nb : Nat} {w p : Ps} (h : ∀ j, j < np → eqOne nb w p j = true) : eqPs np nb w p = true := by
  unfold eqPs
  rw [List.all_eq_true]
  exact fun j hj => h j (List.mem_range.1 hj)
theorem eqPs_no {np nb : Nat} {w p : Ps} {k : Nat} (hk : k < np) (h : eqOne nb w p k = false) : eqPs np nb w p = false := by
  unfold eqPs
  rw [List.all_eq_false]
  exact ⟨k, List.mem_range.2 hk, by rw [h]; decide⟩
theorem eqOne_all {nb : Nat} {w p : Ps} {k : Nat} (hc : cashOf w k = cashOf p k) (h : ∀ i : Nat, i < nb → posOf w k i = posOf p k i) : eqOne nb w p k = true := by
  unfold eqOne
  simp only [Bool.and_eq_true, beq_iff_eq, List.all_eq_true]
  exact ⟨hc, fun i hi => h i (List.mem_range.1 hi)⟩
theorem eqOne_cash {nb : Nat} {w p : Ps} {k : Nat} (hc : ¬ cashOf w k = cashOf p k) : eqOne nb w p k = false := by
  unfold eqOne
  rw [Bool.and_eq_false_iff]
  exact .inl (by simpa using hc)
theorem eqOne_pos {nb : Nat} {w p : Ps} {k i : Nat} (hi : i < nb) (hc : ¬ posOf w k i = posOf p k i) : eqOne nb w p k = false := by
  unfold eqOne
  rw [Bool.and_eq_false_iff]
  refine .inr ?_
  rw [List.all_eq_false]
  exact ⟨i, List.mem_range.2 hi, by simpa using hc⟩
theorem posTab_mem {p : Nat} {AC : Option Addr} {cC : Nat} {AR : Option Addr} {cR : Nat} {cash : List Int} {rs : List PRow} {F : List Chunk} : ∀ c ∈ posTab p AC cC AR cR cash rs [], c ∈ posTab p AC cC AR cR cash rs F := fun c hc => by
  unfold posTab at *
  rw [List.append_nil] at hc
  rcases List.mem_cons.1 hc with rfl | hc
  · exact mem0
  rcases List.mem_cons.1 hc with rfl | hc
  · exact mem1
  rcases List.mem_cons.1 hc with rfl | hc
  · exact mem2
  exact List.mem_cons_of_mem _ (List.mem_cons_of_mem _ (List.mem_cons_of_mem _ (List.mem_append_left _ hc)))
theorem posTab_keep {p : Nat} {AC : Option Addr} {cC : Nat} {AR : Option Addr} {cR : Nat} {cash : List Int} {rs : List PRow} {F : List Chunk} : ∀ c ∈ F, c ∈ posTab p AC cC AR cR cash rs F := fun c hc => by
  unfold posTab
  exact List.mem_cons_of_mem _ (List.mem_cons_of_mem _ (List.mem_cons_of_mem _ (List.mem_append_right _ hc)))
theorem posTab_drop {p : Nat} {AC : Option Addr} {cC : Nat} {AR : Option Addr} {cR : Nat} {cash : List Int} {rs : List PRow} {F : List Chunk} : DropTo (posTab p AC cC AR cR cash rs F) F := dt_skip (dt_skip (dt_skip (dt_app dt_end)))
theorem pos_CashG (W : World) (p : Nat) (AC : Option Addr) (cC : Nat) (AR : Option Addr) (cR : Nat) (cash : List Int) (rs : List PRow) (np nb : Nat) (h1 : 1 ≤ nb) (hP : PsOK np nb (psOf cash rs)) (who : Int) :
    QSpec Tryz.prog W 61 [.pointer (some ⟨p, 0, none⟩), .int .i64 who] (posTab p AC cC AR cR cash rs []) (.int .i64 (cashOf (psOf cash rs) who)) := by
  have hnc := hP.nc
  have hnp := hP.np
  simp only [psOf, List.length_map] at hnc hnp
  rw [← cashR_eq]
  refine (pos_Cash W p AC cC AR cR cash rs (by omega) (fun r hr => ?_) who).mono (mem3P mem0 mem2 mem1)
  have := hP.row r.l (List.mem_map.2 ⟨r, hr, rfl⟩)
  omega
set_option maxHeartbeats 2000000 in
theorem audit_Sums (W : World) (h : List Chunk) (np nb : Nat) (hn : (1 ≤ np ∧ np ≤ 8) ∧ 1 ≤ nb ∧ nb ≤ 4) (A : Option Addr) (c : Nat) (l : List TradeR) (hr : Reads W h A l.length 8 (l.flatMap TradeR.enc)) (hb : l.length ≤ 1000000) (hok : ∀ t ∈ l, inW t.price ∧ inW t.qty)
    (q : Nat) (AC : Option Addr) (cC : Nat) (AR : Option Addr) (cR : Nat) (cash : List Int) (rs : List PRow) (hP : PsOK np nb (psOf cash rs)) (hq : ∀ c ∈ posTab q AC cC AR cR cash rs [], c ∈ h) :
    QSpec Tryz.prog W 23 [.int .i64 np, .int .i64 nb, .slice A l.length c, .pointer (some ⟨q, 0, none⟩)] h (.bool (sumsV np nb l (psOf cash rs))) := by
  refine QSpec.ofD (fun h' hs => ?_)
  have hrd := hr.mono hs
  have hq' : ∀ c ∈ posTab q AC cC AR cR cash rs [], c ∈ h' := fun c hc => hs c (hq c hc)
  have hBo := fun who bond k (hk : ∀ c ∈ h', c ∈ k) => (pos_Bonds W q AC cC AR cR cash rs np nb hP who bond).mono (h' := k) (fun c hc => hk c (hq' c hc))
  have hCa := fun who k (hk : ∀ c ∈ h', c ∈ k) => (pos_CashG W q AC cC AR cR cash rs np nb (by omega) hP who).mono (h' := k) (fun c hc => hk c (hq' c hc))
  have hNw := fun k => pos_NewT W k np nb hn
  unfold sumsV
  refine spec_body Tryz.func23 rfl rfl Tryz.results23 Tryz.ntmps23 rfl rfl ?_
  refine aw_reads hrd rfl (fun hA => ?_)
  repeat' (first
    | apply aw_seq | apply aw_region | apply aw_ret | apply aw_skip | apply aw_exit | apply aw_block | apply es_nil
    | (apply es_pure hT; (iterate 4 exact rfl)) | (apply es_skip; (iterate 3 exact rfl)) | (apply es_skip0; (iterate 2 exact rfl))
    | (apply es_i64 hT; (iterate 4 exact rfl); (iterate 2 (first | omega | (dsimp only; omega))))
    | (apply aw_draw [] [] hmix; decide +kernel)
    | (apply es_call (hs := (hNw _)); (iterate 7 exact rfl); rintro _ _ ⟨p, AC2, cC2, AR2, cR2, cash0, rs0, rfl, hz, rfl⟩)
    | (apply es_load; (iterate 5 exact rfl); first | (apply ld_blk hT; exact rfl; exact rfl; (repeat (first | exact List.mem_cons_self | apply List.mem_cons_of_mem | apply List.mem_append_right)); exact rfl; exact rfl) | (apply ld_all hT; exact rfl; exact rfl; (repeat (first | exact List.mem_cons_self | apply List.mem_cons_of_mem | apply List.mem_append_right)); exact rfl))
    | (apply es_box; (iterate 5 exact rfl); intro _) | (apply es_alloc hT; (iterate 5 exact rfl); intro _)
    | (apply aw_condT; (iterate 2 exact rfl)) | (apply aw_condF; (iterate 2 exact rfl))
    | (apply es_case; exact rfl; all_goals intro hb; all_goals (fail_if_success (change true = true at hb)); all_goals (fail_if_success (change false = false at hb)); all_goals (try dsimp only at hb); all_goals (try simp only [hb]); all_goals (first | replace hb := of_decide_eq_true hb | replace hb := of_decide_eq_false hb | replace hb := bne_t hb | replace hb := bne_f hb | replace hb := eq_of_beq hb | replace hb := ne_of_beq_false hb | skip); all_goals (try (exfalso; omega)))
    | (apply aw_cond; exact rfl; all_goals intro hb; all_goals (try dsimp only at hb); all_goals (try simp only [hb]); all_goals (first | replace hb := of_decide_eq_true hb | replace hb := of_decide_eq_false hb | replace hb := bne_t hb | replace hb := bne_f hb | replace hb := eq_of_beq hb | replace hb := ne_of_beq_false hb | skip); all_goals (try (exfalso; omega))))
  all_goals try (exfalso; omega)
  refine aw_loopD (α := Nat × List Int × List PRow) (E := fun x => [(0, .int .i64 np), (1, .int .i64 nb), (3, .pointer (some ⟨q, 0, none⟩)), (9, .pointer (some ⟨p, 0, none⟩)), (19, .slice A l.length c), (20, .int .i64 l.length), (21, .int .i64 x.1)]) (H := fun x => posTab p AC2 cC2 AR2 cR2 x.2.1 x.2.2 h') (μ := fun x => l.length - x.1)
    (S := fun x => x.1 ≤ l.length ∧ PsOK np nb (psOf x.2.1 x.2.2) ∧ putAll l (zeroPs np nb) = putAll (l.drop x.1) (psOf x.2.1 x.2.2)) (0, cash0, rs0) ⟨Nat.zero_le _, by rw [hz]; exact zeroPs_ok np nb, by rw [hz]; rfl⟩ ⟨rfl, rfl, rfl, rfl, rfl, rfl, rfl, trivial⟩ (by (repeat (first | exact dt_end | (apply dt_cons; · (repeat (first | exact sel0 | apply selS | apply selApp))) | apply dt_skip | apply dt_both))) ?_
  rintro ⟨k, cash1, rs1⟩ ⟨hk, hok1, hall⟩
  dsimp only at hk hok1 hall ⊢
  by_cases hlt : k < l.length
  · obtain ⟨t, ht⟩ : ∃ t, l[k]? = some t := ⟨l[k]'(by omega), List.getElem?_eq_getElem (by omega)⟩
    have ht2 : l[(k : Int).toNat]? = some t := by simpa using ht
    have hA' := hA (by omega)
    have hd1 : decide ((k : Int) < (l.length : Int)) = true := by simp; omega
    obtain ⟨w1, w2⟩ := hok t (List.mem_of_getElem? ht)
    have hPut := fun G => pos_Put W G p AC2 cC2 AR2 cR2 cash1 rs1 np nb hok1 t w1 w2
    rw [putAll_step ht] at hall
    by_cases hE : putE (psOf cash1 rs1) t = 0
    · rw [hE] at hPut
      rw [if_pos hE] at hall
      repeat' (first
        | apply aw_seq | apply aw_region | apply aw_ret | apply aw_skip | apply aw_exit | apply aw_block | apply es_nil
        | (apply es_pure hT; (iterate 4 exact rfl)) | (apply es_skip; (iterate 3 exact rfl)) | (apply es_skip0; (iterate 2 exact rfl))
        | (apply es_i64 hT; (iterate 4 exact rfl); (iterate 2 (first | omega | (dsimp only; omega))))
        | (apply aw_draw [] [] hmix; decide +kernel)
        | (apply es_idx hT; (iterate 8 exact rfl); (iterate 2 omega); exact hA')
        | (apply es_load; (iterate 5 exact rfl); first | exact ld_elem hT rfl rfl (hrd.mono posTab_keep) TradeR.enc_len rfl ht2 rfl | (apply ld_all hT; exact rfl; exact rfl; (repeat (first | exact List.mem_cons_self | apply List.mem_cons_of_mem | apply List.mem_append_right)); exact rfl))
        | (apply es_alloc hT; (iterate 5 exact rfl); first | ((fail_if_success (have q := g11)); intro g11) | intro _)
        | (apply es_store hT; (iterate 6 exact rfl); (repeat (first | exact sel0 | apply selS | apply selApp)); (iterate 3 exact rfl); exact Nat.le_of_ble_eq_true rfl)
        | (apply es_call (hs := (FSpec.perm (hPut _) (by (repeat (first | exact List.Perm.refl _ | (apply permC; · (repeat (first | exact sel0 | apply selS | apply selApp))) | (apply permCA; · (repeat (first | exact pullA0 | apply pullAS | apply pullAA)))))))); (iterate 7 exact rfl); rintro _ _ ⟨rfl, cash2, rs2, hps, rfl⟩)
        | (apply es_load; (iterate 5 exact rfl); first | (apply ld_blk hT; exact rfl; exact rfl; (repeat (first | exact List.mem_cons_self | apply List.mem_cons_of_mem | apply List.mem_append_right)); exact rfl; exact rfl) | (apply ld_all hT; exact rfl; exact rfl; (repeat (first | exact List.mem_cons_self | apply List.mem_cons_of_mem | apply List.mem_append_right)); exact rfl))
        | (apply es_box; (iterate 5 exact rfl); intro _) | (apply es_alloc hT; (iterate 5 exact rfl); intro _)
        | (apply aw_condT; (iterate 2 exact rfl)) | (apply aw_condF; (iterate 2 exact rfl))
        | (apply es_case; exact rfl; all_goals intro hb; all_goals (fail_if_success (change true = true at hb)); all_goals (fail_if_success (change false = false at hb)); all_goals (try dsimp only at hb); all_goals (try simp only [hb]); all_goals (first | replace hb := of_decide_eq_true hb | replace hb := of_decide_eq_false hb | replace hb := bne_t hb | replace hb := bne_f hb | replace hb := eq_of_beq hb | replace hb := ne_of_beq_false hb | skip); all_goals (try (exfalso; omega)))
        | (apply aw_cond; exact rfl; all_goals intro hb; all_goals (try dsimp only at hb); all_goals (try simp only [hb]); all_goals (first | replace hb := of_decide_eq_true hb | replace hb := of_decide_eq_false hb | replace hb := bne_t hb | replace hb := bne_f hb | replace hb := eq_of_beq hb | replace hb := ne_of_beq_false hb | skip); all_goals (try (exfalso; omega))))
      all_goals first
        | (exfalso; omega)
        | exact loopq_end (k + 1, cash2, rs2) (by dsimp only; omega) ⟨by dsimp only; omega, by dsimp only; rw [hps]; exact putPs_ok hok1 t, by dsimp only; rw [hps]; exact hall⟩ ⟨rfl, rfl, rfl, rfl, rfl, rfl, rfl, trivial⟩ (by (repeat (first | exact dt_end | (apply dt_cons; · (repeat (first | exact sel0 | apply selS | apply selApp))) | apply dt_skip | apply dt_both)))
        | skip
    · rw [if_neg hE] at hall
      generalize putE (psOf cash1 rs1) t = e at hPut hE
      repeat' (first
        | apply aw_seq | apply aw_region | apply aw_ret | apply aw_skip | apply aw_exit | apply aw_block | apply es_nil
        | (apply es_pure hT; (iterate 4 exact rfl)) | (apply es_skip; (iterate 3 exact rfl)) | (apply es_skip0; (iterate 2 exact rfl))
        | (apply es_i64 hT; (iterate 4 exact rfl); (iterate 2 (first | omega | (dsimp only; omega))))
        | (apply aw_draw [] [] hmix; decide +kernel)
        | (apply es_idx hT; (iterate 8 exact rfl); (iterate 2 omega); exact hA')
        | (apply es_load; (iterate 5 exact rfl); first | exact ld_elem hT rfl rfl (hrd.mono posTab_keep) TradeR.enc_len rfl ht2 rfl | (apply ld_all hT; exact rfl; exact rfl; (repeat (first | exact List.mem_cons_self | apply List.mem_cons_of_mem | apply List.mem_append_right)); exact rfl))
        | (apply es_alloc hT; (iterate 5 exact rfl); first | ((fail_if_success (have q := g11)); intro g11) | intro _)
        | (apply es_store hT; (iterate 6 exact rfl); (repeat (first | exact sel0 | apply selS | apply selApp)); (iterate 3 exact rfl); exact Nat.le_of_ble_eq_true rfl)
        | (apply es_call (hs := (FSpec.perm (hPut _) (by (repeat (first | exact List.Perm.refl _ | (apply permC; · (repeat (first | exact sel0 | apply selS | apply selApp))) | (apply permCA; · (repeat (first | exact pullA0 | apply pullAS | apply pullAA)))))))); (iterate 7 exact rfl); rintro _ _ ⟨rfl, cash2, rs2, hps, rfl⟩)
        | (apply es_load; (iterate 5 exact rfl); first | (apply ld_blk hT; exact rfl; exact rfl; (repeat (first | exact List.mem_cons_self | apply List.mem_cons_of_mem | apply List.mem_append_right)); exact rfl; exact rfl) | (apply ld_all hT; exact rfl; exact rfl; (repeat (first | exact List.mem_cons_self | apply List.mem_cons_of_mem | apply List.mem_append_right)); exact rfl))
        | (apply es_box; (iterate 5 exact rfl); intro _) | (apply es_alloc hT; (iterate 5 exact rfl); intro _)
        | (apply aw_condT; (iterate 2 exact rfl)) | (apply aw_condF; (iterate 2 exact rfl))
        | (apply es_case; exact rfl; all_goals intro hb; all_goals (fail_if_success (change true = true at hb)); all_goals (fail_if_success (change false = false at hb)); all_goals (try dsimp only at hb); all_goals (try simp only [hb]); all_goals (first | replace hb := of_decide_eq_true hb | replace hb := of_decide_eq_false hb | replace hb := bne_t hb | replace hb := bne_f hb | replace hb := eq_of_beq hb | replace hb := ne_of_beq_false hb | skip); all_goals (try (exfalso; omega)))
        | (apply aw_cond; exact rfl; all_goals intro hb; all_goals (try dsimp only at hb); all_goals (try simp only [hb]); all_goals (first | replace hb := of_decide_eq_true hb | replace hb := of_decide_eq_false hb | replace hb := bne_t hb | replace hb := bne_f hb | replace hb := eq_of_beq hb | replace hb := ne_of_beq_false hb | skip); all_goals (try (exfalso; omega))))
      all_goals first
        | (exfalso; omega)
        | (apply ret1; exact rfl; exact ⟨by rw [hall], dt_trans (show DropTo _ (posTab p AC2 cC2 AR2 cR2 cash2 rs2 h') by (repeat (first | exact dt_end | (apply dt_cons; · (repeat (first | exact sel0 | apply selS | apply selApp))) | apply dt_skip | apply dt_both))) posTab_drop⟩)
        | skip
  · obtain rfl : k = l.length := by omega
    have hd1 : decide ((l.length : Int) < (l.length : Int)) = false := by simp
    rw [List.drop_length] at hall
    rw [hall]
    dsimp only [putAll]
    have hBo1 := fun who bond k (hk : ∀ c ∈ posTab p AC2 cC2 AR2 cR2 cash1 rs1 h', c ∈ k) => (pos_Bonds W p AC2 cC2 AR2 cR2 cash1 rs1 np nb hok1 who bond).mono (h' := k) (fun c hc => hk c (posTab_mem c hc))
    have hCa1 := fun who k (hk : ∀ c ∈ posTab p AC2 cC2 AR2 cR2 cash1 rs1 h', c ∈ k) => (pos_CashG W p AC2 cC2 AR2 cR2 cash1 rs1 np nb (by omega) hok1 who).mono (h' := k) (fun c hc => hk c (posTab_mem c hc))
    have hBo2 := fun who bond => hBo who bond (posTab p AC2 cC2 AR2 cR2 cash1 rs1 h') posTab_keep
    have hCa2 := fun who => hCa who (posTab p AC2 cC2 AR2 cR2 cash1 rs1 h') posTab_keep
    have hdr : DropTo (posTab p AC2 cC2 AR2 cR2 cash1 rs1 h') h' := posTab_drop
    generalize posTab p AC2 cC2 AR2 cR2 cash1 rs1 h' = H1 at *
    generalize psOf cash1 rs1 = w at *
    generalize psOf cash rs = v at *
    repeat' (first
      | apply aw_seq | apply aw_region | apply aw_ret | apply aw_skip | apply aw_exit | apply aw_block | apply es_nil
      | (apply es_pure hT; (iterate 4 exact rfl)) | (apply es_skip; (iterate 3 exact rfl)) | (apply es_skip0; (iterate 2 exact rfl))
      | (apply es_i64 hT; (iterate 4 exact rfl); (iterate 2 (first | omega | (dsimp only; omega))))
      | (apply aw_draw [] [] hmix; decide +kernel)
      | (apply es_load; (iterate 5 exact rfl); first | (apply ld_blk hT; exact rfl; exact rfl; (repeat (first | exact List.mem_cons_self | apply List.mem_cons_of_mem | apply List.mem_append_right)); exact rfl; exact rfl) | (apply ld_all hT; exact rfl; exact rfl; (repeat (first | exact List.mem_cons_self | apply List.mem_cons_of_mem | apply List.mem_append_right)); exact rfl))
      | (apply es_box; (iterate 5 exact rfl); intro _) | (apply es_alloc hT; (iterate 5 exact rfl); intro _)
      | (apply aw_condT; (iterate 2 exact rfl)) | (apply aw_condF; (iterate 2 exact rfl))
      | (apply es_case; exact rfl; all_goals intro hb; all_goals (fail_if_success (change true = true at hb)); all_goals (fail_if_success (change false = false at hb)); all_goals (try dsimp only at hb); all_goals (try simp only [hb]); all_goals (first | replace hb := of_decide_eq_true hb | replace hb := of_decide_eq_false hb | replace hb := bne_t hb | replace hb := bne_f hb | replace hb := eq_of_beq hb | replace hb := ne_of_beq_false hb | skip); all_goals (try (exfalso; omega)))
      | (apply aw_cond; exact rfl; all_goals intro hb; all_goals (try dsimp only at hb); all_goals (try simp only [hb]); all_goals (first | replace hb := of_decide_eq_true hb | replace hb := of_decide_eq_false hb | replace hb := bne_t hb | replace hb := bne_f hb | replace hb := eq_of_beq hb | replace hb := ne_of_beq_false hb | skip); all_goals (try (exfalso; omega))))
    all_goals try (exfalso; omega)
    refine aw_loopD (α := Nat) (E := fun x => [(0, .int .i64 np), (1, .int .i64 nb), (3, .pointer (some ⟨q, 0, none⟩)), (9, .pointer (some ⟨p, 0, none⟩)), (30, .int .i64 np), (31, .int .i64 x)]) (H := fun x => H1) (μ := fun x => np - x)
      (S := fun x => x ≤ np ∧ ∀ j, j < x → eqOne nb w v j = true) 0 ⟨Nat.zero_le _, fun j hj => absurd hj (Nat.not_lt_zero _)⟩ ⟨rfl, rfl, rfl, rfl, rfl, rfl, trivial⟩ (by (repeat (first | exact dt_end | (apply dt_cons; · (repeat (first | exact sel0 | apply selS | apply selApp))) | apply dt_skip | apply dt_both))) ?_
    rintro k ⟨hk, hgd⟩
    by_cases hlt : k < np
    · have hd2 : decide ((k : Int) < (np : Int)) = true := by simp; omega
      have c1 := hCa1 k
      have c2 := hCa2 k
      by_cases hc : cashOf w k = cashOf v k
      · rw [hc] at c1
        generalize hcv : cashOf v k = cv at c1 c2 hc
        repeat' (first
          | (apply es_diffB hT; (iterate 5 exact rfl))
          | apply aw_seq | apply aw_region | apply aw_ret | apply aw_skip | apply aw_exit | apply aw_block | apply es_nil
          | (apply es_pure hT; (iterate 4 exact rfl)) | (apply es_skip; (iterate 3 exact rfl)) | (apply es_skip0; (iterate 2 exact rfl))
          | (apply es_i64 hT; (iterate 4 exact rfl); (iterate 2 (first | omega | (dsimp only; omega))))
          | (apply aw_draw [] [] hmix; decide +kernel)
          | (apply es_callQ (hs := (c1 _ (by (intro c hc; (repeat (first | exact hc | apply List.mem_cons_of_mem | apply List.mem_append_right)))))); (iterate 7 exact rfl))
          | (apply es_callQ (hs := (c2.mono (by (intro c hc; (repeat (first | exact hc | apply List.mem_cons_of_mem | apply List.mem_append_right)))))); (iterate 7 exact rfl))
          | (apply es_load; (iterate 5 exact rfl); first | (apply ld_blk hT; exact rfl; exact rfl; (repeat (first | exact List.mem_cons_self | apply List.mem_cons_of_mem | apply List.mem_append_right)); exact rfl; exact rfl) | (apply ld_all hT; exact rfl; exact rfl; (repeat (first | exact List.mem_cons_self | apply List.mem_cons_of_mem | apply List.mem_append_right)); exact rfl))
          | (apply es_box; (iterate 5 exact rfl); intro _) | (apply es_alloc hT; (iterate 5 exact rfl); intro _)
          | (apply aw_condT; (iterate 2 exact rfl)) | (apply aw_condF; (iterate 2 exact rfl))
          | (apply es_case; exact rfl; all_goals intro hb; all_goals (fail_if_success (change true = true at hb)); all_goals (fail_if_success (change false = false at hb)); all_goals (try dsimp only at hb); all_goals (try simp only [hb]); all_goals (first | replace hb := of_decide_eq_true hb | replace hb := of_decide_eq_false hb | replace hb := bne_t hb | replace hb := bne_f hb | replace hb := eq_of_beq hb | replace hb := ne_of_beq_false hb | skip); all_goals (try (exfalso; omega)))
          | (apply aw_cond; exact rfl; all_goals intro hb; all_goals (try dsimp only at hb); all_goals (try simp only [hb]); all_goals (first | replace hb := of_decide_eq_true hb | replace hb := of_decide_eq_false hb | replace hb := bne_t hb | replace hb := bne_f hb | replace hb := eq_of_beq hb | replace hb := ne_of_beq_false hb | skip); all_goals (try (exfalso; omega))))
        all_goals try (exfalso; omega)
        refine aw_loopD (α := Nat) (E := fun x => [(0, .int .i64 np), (1, .int .i64 nb), (3, .pointer (some ⟨q, 0, none⟩)), (9, .pointer (some ⟨p, 0, none⟩)), (12, .int .i64 k), (30, .int .i64 np), (31, .int .i64 k), (41, .int .i64 nb), (42, .int .i64 x)]) (H := fun x => H1) (μ := fun x => nb - x)
          (S := fun x => x ≤ nb ∧ ∀ i : Nat, i < x → posOf w k i = posOf v k i) 0 ⟨Nat.zero_le _, fun j hj => absurd hj (Nat.not_lt_zero _)⟩ ⟨rfl, rfl, rfl, rfl, rfl, rfl, rfl, rfl, rfl, trivial⟩ (by (repeat (first | exact dt_end | (apply dt_cons; · (repeat (first | exact sel0 | apply selS | apply selApp))) | apply dt_skip | apply dt_both))) ?_
        rintro m ⟨hm, hgm⟩
        by_cases hlm : m < nb
        · have hd3 : decide ((m : Int) < (nb : Int)) = true := by simp; omega
          have b1 := hBo1 k m
          have b2 := hBo2 k m
          by_cases hbq : posOf w k m = posOf v k m
          · rw [hbq] at b1
            generalize hbv : posOf v k m = bv at b1 b2 hbq
            repeat' (first
              | (apply es_diffB hT; (iterate 5 exact rfl))
              | apply aw_seq | apply aw_region | apply aw_ret | apply aw_skip | apply aw_exit | apply aw_block | apply es_nil
              | (apply es_pure hT; (iterate 4 exact rfl)) | (apply es_skip; (iterate 3 exact rfl)) | (apply es_skip0; (iterate 2 exact rfl))
              | (apply es_i64 hT; (iterate 4 exact rfl); (iterate 2 (first | omega | (dsimp only; omega))))
              | (apply aw_draw [] [] hmix; decide +kernel)
              | (apply es_callQ (hs := (b1 _ (by (intro c hc; (repeat (first | exact hc | apply List.mem_cons_of_mem | apply List.mem_append_right)))))); (iterate 7 exact rfl))
              | (apply es_callQ (hs := (b2.mono (by (intro c hc; (repeat (first | exact hc | apply List.mem_cons_of_mem | apply List.mem_append_right)))))); (iterate 7 exact rfl))
              | (apply es_load; (iterate 5 exact rfl); first | (apply ld_blk hT; exact rfl; exact rfl; (repeat (first | exact List.mem_cons_self | apply List.mem_cons_of_mem | apply List.mem_append_right)); exact rfl; exact rfl) | (apply ld_all hT; exact rfl; exact rfl; (repeat (first | exact List.mem_cons_self | apply List.mem_cons_of_mem | apply List.mem_append_right)); exact rfl))
              | (apply es_box; (iterate 5 exact rfl); intro _) | (apply es_alloc hT; (iterate 5 exact rfl); intro _)
              | (apply aw_condT; (iterate 2 exact rfl)) | (apply aw_condF; (iterate 2 exact rfl))
              | (apply es_case; exact rfl; all_goals intro hb; all_goals (fail_if_success (change true = true at hb)); all_goals (fail_if_success (change false = false at hb)); all_goals (try dsimp only at hb); all_goals (try simp only [hb]); all_goals (first | replace hb := of_decide_eq_true hb | replace hb := of_decide_eq_false hb | replace hb := bne_t hb | replace hb := bne_f hb | replace hb := eq_of_beq hb | replace hb := ne_of_beq_false hb | skip); all_goals (try (exfalso; omega)))
              | (apply aw_cond; exact rfl; all_goals intro hb; all_goals (try dsimp only at hb); all_goals (try simp only [hb]); all_goals (first | replace hb := of_decide_eq_true hb | replace hb := of_decide_eq_false hb | replace hb := bne_t hb | replace hb := bne_f hb | replace hb := eq_of_beq hb | replace hb := ne_of_beq_false hb | skip); all_goals (try (exfalso; omega))))
            all_goals first
              | (exfalso; omega)
              | exact loopq_end (m + 1) (by (try dsimp only); omega) ⟨by (try dsimp only); omega, fun i hi => by
                  by_cases e : i = m
                  · rw [e, hbq, hbv]
                  · exact hgm i (by (try dsimp only at hi); omega)⟩ ⟨rfl, rfl, rfl, rfl, rfl, rfl, rfl, rfl, rfl, trivial⟩ (by (repeat (first | exact dt_end | (apply dt_cons; · (repeat (first | exact sel0 | apply selS | apply selApp))) | apply dt_skip | apply dt_both)))
              | skip
          · have hno : eqPs np nb w v = false := eqPs_no hlt (eqOne_pos hlm hbq)
            generalize posOf w k m = bw at b1 hbq
            generalize posOf v k m = bv at b2 hbq
            repeat' (first
              | apply aw_seq | apply aw_region | apply aw_ret | apply aw_skip | apply aw_exit | apply aw_block | apply es_nil
              | (apply es_pure hT; (iterate 4 exact rfl)) | (apply es_skip; (iterate 3 exact rfl)) | (apply es_skip0; (iterate 2 exact rfl))
              | (apply es_i64 hT; (iterate 4 exact rfl); (iterate 2 (first | omega | (dsimp only; omega))))
              | (apply aw_draw [] [] hmix; decide +kernel)
              | (apply es_callQ (hs := (b1 _ (by (intro c hc; (repeat (first | exact hc | apply List.mem_cons_of_mem | apply List.mem_append_right)))))); (iterate 7 exact rfl))
              | (apply es_callQ (hs := (b2.mono (by (intro c hc; (repeat (first | exact hc | apply List.mem_cons_of_mem | apply List.mem_append_right)))))); (iterate 7 exact rfl))
              | (apply es_load; (iterate 5 exact rfl); first | (apply ld_blk hT; exact rfl; exact rfl; (repeat (first | exact List.mem_cons_self | apply List.mem_cons_of_mem | apply List.mem_append_right)); exact rfl; exact rfl) | (apply ld_all hT; exact rfl; exact rfl; (repeat (first | exact List.mem_cons_self | apply List.mem_cons_of_mem | apply List.mem_append_right)); exact rfl))
              | (apply es_box; (iterate 5 exact rfl); intro _) | (apply es_alloc hT; (iterate 5 exact rfl); intro _)
              | (apply aw_condT; (iterate 2 exact rfl)) | (apply aw_condF; (iterate 2 exact rfl))
              | (apply es_case; exact rfl; all_goals intro hb; all_goals (fail_if_success (change true = true at hb)); all_goals (fail_if_success (change false = false at hb)); all_goals (try dsimp only at hb); all_goals (try simp only [hb]); all_goals (first | replace hb := of_decide_eq_true hb | replace hb := of_decide_eq_false hb | replace hb := bne_t hb | replace hb := bne_f hb | replace hb := eq_of_beq hb | replace hb := ne_of_beq_false hb | skip); all_goals (try (exfalso; omega)))
              | (apply aw_cond; exact rfl; all_goals intro hb; all_goals (try dsimp only at hb); all_goals (try simp only [hb]); all_goals (first | replace hb := of_decide_eq_true hb | replace hb := of_decide_eq_false hb | replace hb := bne_t hb | replace hb := bne_f hb | replace hb := eq_of_beq hb | replace hb := ne_of_beq_false hb | skip); all_goals (try (exfalso; omega))))
            all_goals first
              | (exfalso; omega)
              | (apply ret1; exact rfl; exact ⟨by rw [hno], dt_trans (show DropTo _ H1 by (repeat (first | exact dt_end | (apply dt_cons; · (repeat (first | exact sel0 | apply selS | apply selApp))) | apply dt_skip | apply dt_both))) hdr⟩)
              | skip
        · obtain rfl : m = nb := by omega
          have hd3 : decide ((m : Int) < (m : Int)) = false := by simp
          have hone : eqOne m w v k = true := eqOne_all (by rw [hc, hcv]) hgm
          repeat' (first
            | apply aw_seq | apply aw_region | apply aw_ret | apply aw_skip | apply aw_exit | apply aw_block | apply es_nil
            | (apply es_pure hT; (iterate 4 exact rfl)) | (apply es_skip; (iterate 3 exact rfl)) | (apply es_skip0; (iterate 2 exact rfl))
            | (apply es_i64 hT; (iterate 4 exact rfl); (iterate 2 (first | omega | (dsimp only; omega))))
            | (apply aw_draw [] [] hmix; decide +kernel)
            | (apply es_load; (iterate 5 exact rfl); first | (apply ld_blk hT; exact rfl; exact rfl; (repeat (first | exact List.mem_cons_self | apply List.mem_cons_of_mem | apply List.mem_append_right)); exact rfl; exact rfl) | (apply ld_all hT; exact rfl; exact rfl; (repeat (first | exact List.mem_cons_self | apply List.mem_cons_of_mem | apply List.mem_append_right)); exact rfl))
            | (apply es_box; (iterate 5 exact rfl); intro _) | (apply es_alloc hT; (iterate 5 exact rfl); intro _)
            | (apply aw_condT; (iterate 2 exact rfl)) | (apply aw_condF; (iterate 2 exact rfl))
            | (apply es_case; exact rfl; all_goals intro hb; all_goals (fail_if_success (change true = true at hb)); all_goals (fail_if_success (change false = false at hb)); all_goals (try dsimp only at hb); all_goals (try simp only [hb]); all_goals (first | replace hb := of_decide_eq_true hb | replace hb := of_decide_eq_false hb | replace hb := bne_t hb | replace hb := bne_f hb | replace hb := eq_of_beq hb | replace hb := ne_of_beq_false hb | skip); all_goals (try (exfalso; omega)))
            | (apply aw_cond; exact rfl; all_goals intro hb; all_goals (try dsimp only at hb); all_goals (try simp only [hb]); all_goals (first | replace hb := of_decide_eq_true hb | replace hb := of_decide_eq_false hb | replace hb := bne_t hb | replace hb := bne_f hb | replace hb := eq_of_beq hb | replace hb := ne_of_beq_false hb | skip); all_goals (try (exfalso; omega))))
          all_goals first
            | (exfalso; omega)
            | exact loopq_end (k + 1) (by (try dsimp only); omega) ⟨by (try dsimp only); omega, eqPs_step (np := np) hgd hone⟩ ⟨rfl, rfl, rfl, rfl, rfl, rfl, trivial⟩ (by (repeat (first | exact dt_end | (apply dt_cons; · (repeat (first | exact sel0 | apply selS | apply selApp))) | apply dt_skip | apply dt_both)))
            | skip
      · have hno : eqPs np nb w v = false := eqPs_no hlt (eqOne_cash hc)
        generalize cashOf w k = cw at c1 hc
        generalize cashOf v k = cv at c2 hc
        repeat' (first
          | apply aw_seq | apply aw_region | apply aw_ret | apply aw_skip | apply aw_exit | apply aw_block | apply es_nil
          | (apply es_pure hT; (iterate 4 exact rfl)) | (apply es_skip; (iterate 3 exact rfl)) | (apply es_skip0; (iterate 2 exact rfl))
          | (apply es_i64 hT; (iterate 4 exact rfl); (iterate 2 (first | omega | (dsimp only; omega))))
          | (apply aw_draw [] [] hmix; decide +kernel)
          | (apply es_callQ (hs := (c1 _ (by (intro c hc; (repeat (first | exact hc | apply List.mem_cons_of_mem | apply List.mem_append_right)))))); (iterate 7 exact rfl))
          | (apply es_callQ (hs := (c2.mono (by (intro c hc; (repeat (first | exact hc | apply List.mem_cons_of_mem | apply List.mem_append_right)))))); (iterate 7 exact rfl))
          | (apply es_load; (iterate 5 exact rfl); first | (apply ld_blk hT; exact rfl; exact rfl; (repeat (first | exact List.mem_cons_self | apply List.mem_cons_of_mem | apply List.mem_append_right)); exact rfl; exact rfl) | (apply ld_all hT; exact rfl; exact rfl; (repeat (first | exact List.mem_cons_self | apply List.mem_cons_of_mem | apply List.mem_append_right)); exact rfl))
          | (apply es_box; (iterate 5 exact rfl); intro _) | (apply es_alloc hT; (iterate 5 exact rfl); intro _)
          | (apply aw_condT; (iterate 2 exact rfl)) | (apply aw_condF; (iterate 2 exact rfl))
          | (apply es_case; exact rfl; all_goals intro hb; all_goals (fail_if_success (change true = true at hb)); all_goals (fail_if_success (change false = false at hb)); all_goals (try dsimp only at hb); all_goals (try simp only [hb]); all_goals (first | replace hb := of_decide_eq_true hb | replace hb := of_decide_eq_false hb | replace hb := bne_t hb | replace hb := bne_f hb | replace hb := eq_of_beq hb | replace hb := ne_of_beq_false hb | skip); all_goals (try (exfalso; omega)))
          | (apply aw_cond; exact rfl; all_goals intro hb; all_goals (try dsimp only at hb); all_goals (try simp only [hb]); all_goals (first | replace hb := of_decide_eq_true hb | replace hb := of_decide_eq_false hb | replace hb := bne_t hb | replace hb := bne_f hb | replace hb := eq_of_beq hb | replace hb := ne_of_beq_false hb | skip); all_goals (try (exfalso; omega))))
        all_goals first
          | (exfalso; omega)
          | (apply ret1; exact rfl; exact ⟨by rw [hno], dt_trans (show DropTo _ H1 by (repeat (first | exact dt_end | (apply dt_cons; · (repeat (first | exact sel0 | apply selS | apply selApp))) | apply dt_skip | apply dt_both))) hdr⟩)
          | skip
    · obtain rfl : k = np := by omega
      have hd2 : decide ((k : Int) < (k : Int)) = false := by simp
      repeat' (first
        | apply aw_seq | apply aw_region | apply aw_ret | apply aw_skip | apply aw_exit | apply aw_block | apply es_nil
        | (apply es_pure hT; (iterate 4 exact rfl)) | (apply es_skip; (iterate 3 exact rfl)) | (apply es_skip0; (iterate 2 exact rfl))
        | (apply es_i64 hT; (iterate 4 exact rfl); (iterate 2 (first | omega | (dsimp only; omega))))
        | (apply aw_draw [] [] hmix; decide +kernel)
        | (apply es_load; (iterate 5 exact rfl); first | (apply ld_blk hT; exact rfl; exact rfl; (repeat (first | exact List.mem_cons_self | apply List.mem_cons_of_mem | apply List.mem_append_right)); exact rfl; exact rfl) | (apply ld_all hT; exact rfl; exact rfl; (repeat (first | exact List.mem_cons_self | apply List.mem_cons_of_mem | apply List.mem_append_right)); exact rfl))
        | (apply es_box; (iterate 5 exact rfl); intro _) | (apply es_alloc hT; (iterate 5 exact rfl); intro _)
        | (apply aw_condT; (iterate 2 exact rfl)) | (apply aw_condF; (iterate 2 exact rfl))
        | (apply es_case; exact rfl; all_goals intro hb; all_goals (fail_if_success (change true = true at hb)); all_goals (fail_if_success (change false = false at hb)); all_goals (try dsimp only at hb); all_goals (try simp only [hb]); all_goals (first | replace hb := of_decide_eq_true hb | replace hb := of_decide_eq_false hb | replace hb := bne_t hb | replace hb := bne_f hb | replace hb := eq_of_beq hb | replace hb := ne_of_beq_false hb | skip); all_goals (try (exfalso; omega)))
        | (apply aw_cond; exact rfl; all_goals intro hb; all_goals (try dsimp only at hb); all_goals (try simp only [hb]); all_goals (first | replace hb := of_decide_eq_true hb | replace hb := of_decide_eq_false hb | replace hb := bne_t hb | replace hb := bne_f hb | replace hb := eq_of_beq hb | replace hb := ne_of_beq_false hb | skip); all_goals (try (exfalso; omega))))
      all_goals first
        | (exfalso; omega)
        | (apply ret1; exact rfl; exact ⟨by rw [eqPs_all hgd], dt_trans (show DropTo _ H1 by (repeat (first | exact dt_end | (apply dt_cons; · (repeat (first | exact sel0 | apply selS | apply selApp))) | apply dt_skip | apply dt_both))) hdr⟩)
        | skip
end Go.Proofs.YtjcnaeengplcbaaGreat

set_option linter.unusedSimpArgs false
set_option linter.unusedVariables false
namespace Go.Proofs.YtjcnaeengplcbaaGreat
open Go Go.Sl
attribute [local irreducible] AW ES EP Ld RetQ
set_option maxRecDepth 100000

theorem book_LevelsNil (W : World) (s : Int) : QSpec Tryz.prog W 87 [.pointer none, .int .i64 s] [] (.slice none 0 0) := by
  refine QSpec.ofD (fun h' hs => ?_)
  refine spec_body Tryz.func87 rfl rfl Tryz.results87 Tryz.ntmps87 rfl rfl ?_
  repeat' (first
    | apply aw_seq | apply aw_region | apply aw_ret | apply aw_skip | apply aw_exit | apply aw_block | apply es_nil
    | (apply es_pure hT; (iterate 4 exact rfl)) | (apply es_skip; (iterate 3 exact rfl)) | (apply es_skip0; (iterate 2 exact rfl))
    | (apply es_i64 hT; (iterate 4 exact rfl); (iterate 2 (first | omega | (dsimp only; omega))))
    | (apply aw_draw [] [] hmix; decide +kernel)
    | (apply es_callQ (hs := ((book_SideNil W s).mono (by simp))); (iterate 7 exact rfl))
    | (apply es_load; (iterate 5 exact rfl); first | (apply ld_blk hT; exact rfl; exact rfl; (repeat (first | exact List.mem_cons_self | apply List.mem_cons_of_mem | apply List.mem_append_right)); exact rfl; exact rfl) | (apply ld_all hT; exact rfl; exact rfl; (repeat (first | exact List.mem_cons_self | apply List.mem_cons_of_mem | apply List.mem_append_right)); exact rfl))
    | (apply es_box; (iterate 5 exact rfl); intro _) | (apply es_alloc hT; (iterate 5 exact rfl); intro _)
    | (apply aw_condT; (iterate 2 exact rfl)) | (apply aw_condF; (iterate 2 exact rfl))
    | (apply es_case; exact rfl; all_goals intro hb; all_goals (fail_if_success (change true = true at hb)); all_goals (fail_if_success (change false = false at hb)); all_goals (try dsimp only at hb); all_goals (try simp only [hb]); all_goals (first | replace hb := of_decide_eq_true hb | replace hb := of_decide_eq_false hb | replace hb := bne_t hb | replace hb := bne_f hb | replace hb := eq_of_beq hb | replace hb := ne_of_beq_false hb | skip); all_goals (try (exfalso; omega)))
    | (apply aw_cond; exact rfl; all_goals intro hb; all_goals (try dsimp only at hb); all_goals (try simp only [hb]); all_goals (first | replace hb := of_decide_eq_true hb | replace hb := of_decide_eq_false hb | replace hb := bne_t hb | replace hb := bne_f hb | replace hb := eq_of_beq hb | replace hb := ne_of_beq_false hb | skip); all_goals (try (exfalso; omega))))
  refine aw_loopD (α := Unit) (E := fun _ => [(5, .slice none 0 0), (12, .int .i64 0), (13, .int .i64 0)]) (H := fun _ => h') (μ := fun _ => 0) (S := fun _ => True) () trivial ⟨rfl, rfl, rfl, trivial⟩ (by (repeat (first | exact dt_end | (apply dt_cons; · (repeat (first | exact sel0 | apply selS | apply selApp))) | apply dt_skip | apply dt_both))) ?_
  intro _ _
  have hd1 : decide ((0 : Int) < 0) = false := by decide
  repeat' (first
    | apply aw_seq | apply aw_region | apply aw_ret | apply aw_skip | apply aw_exit | apply aw_block | apply es_nil
    | (apply es_pure hT; (iterate 4 exact rfl)) | (apply es_skip; (iterate 3 exact rfl)) | (apply es_skip0; (iterate 2 exact rfl))
    | (apply es_i64 hT; (iterate 4 exact rfl); (iterate 2 (first | omega | (dsimp only; omega))))
    | (apply aw_draw [] [] hmix; decide +kernel)
    | (apply es_load; (iterate 5 exact rfl); first | (apply ld_blk hT; exact rfl; exact rfl; (repeat (first | exact List.mem_cons_self | apply List.mem_cons_of_mem | apply List.mem_append_right)); exact rfl; exact rfl) | (apply ld_all hT; exact rfl; exact rfl; (repeat (first | exact List.mem_cons_self | apply List.mem_cons_of_mem | apply List.mem_append_right)); exact rfl))
    | (apply es_box; (iterate 5 exact rfl); intro _) | (apply es_alloc hT; (iterate 5 exact rfl); intro _)
    | (apply aw_condT; (iterate 2 exact rfl)) | (apply aw_condF; (iterate 2 exact rfl))
    | (apply es_case; exact rfl; all_goals intro hb; all_goals (fail_if_success (change true = true at hb)); all_goals (fail_if_success (change false = false at hb)); all_goals (try dsimp only at hb); all_goals (try simp only [hb]); all_goals (first | replace hb := of_decide_eq_true hb | replace hb := of_decide_eq_false hb | replace hb := bne_t hb | replace hb := bne_f hb | replace hb := eq_of_beq hb | replace hb := ne_of_beq_false hb | skip); all_goals (try (exfalso; omega)))
    | (apply aw_cond; exact rfl; all_goals intro hb; all_goals (try dsimp only at hb); all_goals (try simp only [hb]); all_goals (first | replace hb := of_decide_eq_true hb | replace hb := of_decide_eq_false hb | replace hb := bne_t hb | replace hb := bne_f hb | replace hb := eq_of_beq hb | replace hb := ne_of_beq_false hb | skip); all_goals (try (exfalso; omega))))
  all_goals first
    | (exfalso; omega)
    | (apply ret1; exact rfl; exact ⟨rfl, by (repeat (first | exact dt_end | (apply dt_cons; · (repeat (first | exact sel0 | apply selS | apply selApp))) | apply dt_skip | apply dt_both))⟩)
    | skip
theorem audit_UncrossedNil (W : World) : QSpec Tryz.prog W 27 [.pointer none] [] (.bool true) := by
  refine QSpec.ofD (fun h' hs => ?_)
  refine spec_body Tryz.func27 rfl rfl Tryz.results27 Tryz.ntmps27 rfl rfl ?_
  repeat' (first
    | apply aw_seq | apply aw_region | apply aw_ret | apply aw_skip | apply aw_exit | apply aw_block | apply es_nil
    | (apply es_pure hT; (iterate 4 exact rfl)) | (apply es_skip; (iterate 3 exact rfl)) | (apply es_skip0; (iterate 2 exact rfl))
    | (apply es_i64 hT; (iterate 4 exact rfl); (iterate 2 (first | omega | (dsimp only; omega))))
    | (apply aw_draw [] [] hmix; decide +kernel)
    | (apply es_callQ (hs := ((book_LevelsNil W _).mono (by simp))); (iterate 7 exact rfl))
    | (apply es_load; (iterate 5 exact rfl); first | (apply ld_blk hT; exact rfl; exact rfl; (repeat (first | exact List.mem_cons_self | apply List.mem_cons_of_mem | apply List.mem_append_right)); exact rfl; exact rfl) | (apply ld_all hT; exact rfl; exact rfl; (repeat (first | exact List.mem_cons_self | apply List.mem_cons_of_mem | apply List.mem_append_right)); exact rfl))
    | (apply es_box; (iterate 5 exact rfl); intro _) | (apply es_alloc hT; (iterate 5 exact rfl); intro _)
    | (apply aw_condT; (iterate 2 exact rfl)) | (apply aw_condF; (iterate 2 exact rfl))
    | (apply es_case; exact rfl; all_goals intro hb; all_goals (fail_if_success (change true = true at hb)); all_goals (fail_if_success (change false = false at hb)); all_goals (try dsimp only at hb); all_goals (try simp only [hb]); all_goals (first | replace hb := of_decide_eq_true hb | replace hb := of_decide_eq_false hb | replace hb := bne_t hb | replace hb := bne_f hb | replace hb := eq_of_beq hb | replace hb := ne_of_beq_false hb | skip); all_goals (try (exfalso; omega)))
    | (apply aw_cond; exact rfl; all_goals intro hb; all_goals (try dsimp only at hb); all_goals (try simp only [hb]); all_goals (first | replace hb := of_decide_eq_true hb | replace hb := of_decide_eq_false hb | replace hb := bne_t hb | replace hb := bne_f hb | replace hb := eq_of_beq hb | replace hb := ne_of_beq_false hb | skip); all_goals (try (exfalso; omega))))
  all_goals first
    | (exfalso; omega)
    | (apply ret1; exact rfl; exact ⟨rfl, by (repeat (first | exact dt_end | (apply dt_cons; · (repeat (first | exact sel0 | apply selS | apply selApp))) | apply dt_skip | apply dt_both))⟩)
    | skip
theorem lvReads {W : World} {h : List Chunk} {A : Option Addr} {c : Nat} {l : List Lvl} {n : Nat} (hm : Chunk.own A n c 151 2 (l.flatMap Lvl.enc) ∈ h) (hn : l.length = n) : Reads W h A n 2 (l.flatMap Lvl.enc) := Reads.enc Lvl.enc_len Lvl.enc_one hm hn
theorem audit_Uncrossed (W : World) (p : Nat) (A : Option Addr) (c : Nat) (l : List Order) (hB : BookB l) :
    QSpec Tryz.prog W 27 [.pointer (some ⟨p, 0, none⟩)] [.blk p 193 [.slice A l.length c], .own A l.length c 82 6 (l.flatMap Order.enc)] (.bool (headsB (levelsO (sideO 1 l)) (levelsO (sideO 2 l)))) := by
  refine QSpec.ofD (fun h' hs => ?_)
  have m1 := hs _ mem0
  have m2 := hs _ mem1
  have hL1 := fun h m1 m2 => book_Levels W h p A c l 1 m1 m2 hB.le hB.seq hB.side hB.left
  have hL2 := fun h m1 m2 => book_Levels W h p A c l 2 m1 m2 hB.le hB.seq hB.side hB.left
  generalize levelsO (sideO 1 l) = v1 at *
  generalize levelsO (sideO 2 l) = v2 at *
  refine spec_body Tryz.func27 rfl rfl Tryz.results27 Tryz.ntmps27 rfl rfl ?_
  rcases v1 with _ | ⟨x, v1⟩
  · repeat' (first
      | apply aw_seq | apply aw_region | apply aw_ret | apply aw_skip | apply aw_exit | apply aw_block | apply es_nil
      | (apply es_pure hT; (iterate 4 exact rfl)) | (apply es_skip; (iterate 3 exact rfl)) | (apply es_skip0; (iterate 2 exact rfl))
      | (apply es_i64 hT; (iterate 4 exact rfl); (iterate 2 (first | omega | (dsimp only; omega))))
      | (apply aw_draw [] [] hmix; decide +kernel)
      | (apply es_call (hs := (hL1 _ m1 m2)); (iterate 7 exact rfl); rintro _ _ ⟨A1, c1, rfl, rfl, ho1⟩)
      | (apply es_call (hs := (hL2 _ (.tail _ m1) (.tail _ m2))); (iterate 7 exact rfl); rintro _ _ ⟨A2, c2, rfl, rfl, ho2⟩)
      | (apply es_load; (iterate 5 exact rfl); first | (apply ld_blk hT; exact rfl; exact rfl; (repeat (first | exact List.mem_cons_self | apply List.mem_cons_of_mem | apply List.mem_append_right)); exact rfl; exact rfl) | (apply ld_all hT; exact rfl; exact rfl; (repeat (first | exact List.mem_cons_self | apply List.mem_cons_of_mem | apply List.mem_append_right)); exact rfl))
      | (apply es_box; (iterate 5 exact rfl); intro _) | (apply es_alloc hT; (iterate 5 exact rfl); intro _)
      | (apply aw_condT; (iterate 2 exact rfl)) | (apply aw_condF; (iterate 2 exact rfl))
      | (apply es_case; exact rfl; all_goals intro hb; all_goals (fail_if_success (change true = true at hb)); all_goals (fail_if_success (change false = false at hb)); all_goals (try dsimp only at hb); all_goals (try simp only [hb]); all_goals (first | replace hb := of_decide_eq_true hb | replace hb := of_decide_eq_false hb | replace hb := bne_t hb | replace hb := bne_f hb | replace hb := eq_of_beq hb | replace hb := ne_of_beq_false hb | skip); all_goals (try (exfalso; omega)))
      | (apply aw_cond; exact rfl; all_goals intro hb; all_goals (try dsimp only at hb); all_goals (try simp only [hb]); all_goals (first | replace hb := of_decide_eq_true hb | replace hb := of_decide_eq_false hb | replace hb := bne_t hb | replace hb := bne_f hb | replace hb := eq_of_beq hb | replace hb := ne_of_beq_false hb | skip); all_goals (try (exfalso; omega))))
    all_goals first
      | (exfalso; omega)
      | (apply ret1; exact rfl; exact ⟨rfl, by (repeat (first | exact dt_end | (apply dt_cons; · (repeat (first | exact sel0 | apply selS | apply selApp))) | apply dt_skip | apply dt_both))⟩)
      | skip
  · rcases v2 with _ | ⟨y, v2⟩
    · have hd0 : decide ((((x :: v1).length : Nat) : Int) = 0) = false := by simp; omega
      repeat' (first
        | apply aw_seq | apply aw_region | apply aw_ret | apply aw_skip | apply aw_exit | apply aw_block | apply es_nil
        | (apply es_pure hT; (iterate 4 exact rfl)) | (apply es_skip; (iterate 3 exact rfl)) | (apply es_skip0; (iterate 2 exact rfl))
        | (apply es_i64 hT; (iterate 4 exact rfl); (iterate 2 (first | omega | (dsimp only; omega))))
        | (apply aw_draw [] [] hmix; decide +kernel)
        | (apply es_call (hs := (hL1 _ m1 m2)); (iterate 7 exact rfl); rintro _ _ ⟨A1, c1, rfl, rfl, ho1⟩)
        | (apply es_call (hs := (hL2 _ (.tail _ m1) (.tail _ m2))); (iterate 7 exact rfl); rintro _ _ ⟨A2, c2, rfl, rfl, ho2⟩)
        | (apply es_load; (iterate 5 exact rfl); first | (apply ld_blk hT; exact rfl; exact rfl; (repeat (first | exact List.mem_cons_self | apply List.mem_cons_of_mem | apply List.mem_append_right)); exact rfl; exact rfl) | (apply ld_all hT; exact rfl; exact rfl; (repeat (first | exact List.mem_cons_self | apply List.mem_cons_of_mem | apply List.mem_append_right)); exact rfl))
        | (apply es_box; (iterate 5 exact rfl); intro _) | (apply es_alloc hT; (iterate 5 exact rfl); intro _)
        | (apply aw_condT; (iterate 2 exact rfl)) | (apply aw_condF; (iterate 2 exact rfl))
        | (apply es_case; exact rfl; all_goals intro hb; all_goals (fail_if_success (change true = true at hb)); all_goals (fail_if_success (change false = false at hb)); all_goals (try dsimp only at hb); all_goals (try simp only [hb]); all_goals (first | replace hb := of_decide_eq_true hb | replace hb := of_decide_eq_false hb | replace hb := bne_t hb | replace hb := bne_f hb | replace hb := eq_of_beq hb | replace hb := ne_of_beq_false hb | skip); all_goals (try (exfalso; omega)))
        | (apply aw_cond; exact rfl; all_goals intro hb; all_goals (try dsimp only at hb); all_goals (try simp only [hb]); all_goals (first | replace hb := of_decide_eq_true hb | replace hb := of_decide_eq_false hb | replace hb := bne_t hb | replace hb := bne_f hb | replace hb := eq_of_beq hb | replace hb := ne_of_beq_false hb | skip); all_goals (try (exfalso; omega))))
      all_goals first
        | (exfalso; simp only [List.length_cons] at *; omega)
        | (apply ret1; exact rfl; exact ⟨rfl, by (repeat (first | exact dt_end | (apply dt_cons; · (repeat (first | exact sel0 | apply selS | apply selApp))) | apply dt_skip | apply dt_both))⟩)
        | skip
    · have hx : (x :: v1)[(0 : Int).toNat]? = some x := rfl
      have hy : (y :: v2)[(0 : Int).toNat]? = some y := rfl
      have hlx : 0 < (x :: v1).length := by simp
      have hly : 0 < (y :: v2).length := by simp
      repeat' (first
        | apply aw_seq | apply aw_region | apply aw_ret | apply aw_skip | apply aw_exit | apply aw_block | apply es_nil
        | (apply es_pure hT; (iterate 4 exact rfl)) | (apply es_skip; (iterate 3 exact rfl)) | (apply es_skip0; (iterate 2 exact rfl))
        | (apply es_i64 hT; (iterate 4 exact rfl); (iterate 2 (first | omega | (dsimp only; omega))))
        | (apply aw_draw [] [] hmix; decide +kernel)
        | (apply es_call (hs := (hL1 _ m1 m2)); (iterate 7 exact rfl); rintro _ _ ⟨A1, c1, rfl, rfl, ho1⟩)
        | (apply es_call (hs := (hL2 _ (.tail _ m1) (.tail _ m2))); (iterate 7 exact rfl); rintro _ _ ⟨A2, c2, rfl, rfl, ho2⟩)
        | (apply es_idx hT; (iterate 8 exact rfl); (iterate 2 omega); first | exact ho1.some_ hlx | exact ho2.some_ hly)
        | (apply es_load; (iterate 5 exact rfl); first | exact ld_fld hT rfl rfl (lvReads (by (repeat (first | exact List.mem_cons_self | apply List.mem_cons_of_mem | apply List.mem_append_right))) rfl) Lvl.enc_len (adr_add _ _ _) hx (by decide) rfl | exact ld_fld hT rfl rfl (lvReads (by (repeat (first | exact List.mem_cons_self | apply List.mem_cons_of_mem | apply List.mem_append_right))) rfl) Lvl.enc_len (adr_add _ _ _) hy (by decide) rfl)
        | (apply es_load; (iterate 5 exact rfl); first | (apply ld_blk hT; exact rfl; exact rfl; (repeat (first | exact List.mem_cons_self | apply List.mem_cons_of_mem | apply List.mem_append_right)); exact rfl; exact rfl) | (apply ld_all hT; exact rfl; exact rfl; (repeat (first | exact List.mem_cons_self | apply List.mem_cons_of_mem | apply List.mem_append_right)); exact rfl))
        | (apply es_box; (iterate 5 exact rfl); intro _) | (apply es_alloc hT; (iterate 5 exact rfl); intro _)
        | (apply aw_condT; (iterate 2 exact rfl)) | (apply aw_condF; (iterate 2 exact rfl))
        | (apply es_case; exact rfl; all_goals intro hb; all_goals (fail_if_success (change true = true at hb)); all_goals (fail_if_success (change false = false at hb)); all_goals (try dsimp only at hb); all_goals (try simp only [hb]); all_goals (first | replace hb := of_decide_eq_true hb | replace hb := of_decide_eq_false hb | replace hb := bne_t hb | replace hb := bne_f hb | replace hb := eq_of_beq hb | replace hb := ne_of_beq_false hb | skip); all_goals (try (exfalso; omega)))
        | (apply aw_cond; exact rfl; all_goals intro hb; all_goals (try dsimp only at hb); all_goals (try simp only [hb]); all_goals (first | replace hb := of_decide_eq_true hb | replace hb := of_decide_eq_false hb | replace hb := bne_t hb | replace hb := bne_f hb | replace hb := eq_of_beq hb | replace hb := ne_of_beq_false hb | skip); all_goals (try (exfalso; omega))))
      all_goals first
        | (exfalso; simp only [List.length_cons] at *; omega)
        | (apply ret1; exact rfl; exact ⟨by simp [headsB, *], by (repeat (first | exact dt_end | (apply dt_cons; · (repeat (first | exact sel0 | apply selS | apply selApp))) | apply dt_skip | apply dt_both))⟩)
        | skip
end Go.Proofs.YtjcnaeengplcbaaGreat

set_option linter.unusedSimpArgs false
set_option linter.unusedVariables false
namespace Go.Proofs.YtjcnaeengplcbaaGreat
open Go Go.Sl
attribute [local irreducible] AW ES EP Ld RetQ
set_option maxRecDepth 100000

theorem deskTab_mem {x : DAd} {s : Dk} {bks : List BAd} {rows : List PRow} {F : List Chunk} : ∀ c ∈ deskTab x s bks rows [], c ∈ deskTab x s bks rows F := fun c hc => by
  unfold deskTab at *
  iterate 18 refine (List.mem_cons.1 hc).elim (fun e => e ▸ List.mem_cons_self) (fun hc => List.mem_cons_of_mem _ ?_)
  rw [List.append_nil] at hc
  rcases List.mem_append.1 hc with hc | hc
  · exact List.mem_append_left _ hc
  · exact List.mem_append_right _ (List.mem_append_left _ hc)
theorem deskTab_drop {x : DAd} {s : Dk} {bks : List BAd} {rows : List PRow} {F : List Chunk} : DropTo (deskTab x s bks rows F) F := by
  unfold deskTab
  iterate 18 apply dt_skip
  exact dt_app (dt_app dt_end)
theorem eqPs_refl (np nb : Nat) (p : Ps) : eqPs np nb p p = true := by
  unfold eqPs eqOne
  simp
theorem audit_DeskNil (W : World) (AB : Option Addr) (nb cB : Nat) (AP : Option Addr) (np cP : Nat) (look beat : Int) : QSpec Tryz.prog W 69 [rulesV AB nb cB AP np cP look beat, .pointer none] [] (.bool false) := by
  refine QSpec.ofD (fun h' hs => ?_)
  refine spec_body Tryz.func69 rfl rfl Tryz.results69 Tryz.ntmps69 rfl rfl ?_
  repeat' (first
    | apply aw_seq | apply aw_region | apply aw_ret | apply aw_skip | apply aw_exit | apply aw_block | apply es_nil
    | (apply es_pure hT; (iterate 4 exact rfl)) | (apply es_skip; (iterate 3 exact rfl)) | (apply es_skip0; (iterate 2 exact rfl))
    | (apply es_i64 hT; (iterate 4 exact rfl); (iterate 2 (first | omega | (dsimp only; omega))))
    | (apply aw_draw [] [] hmix; decide +kernel)
    | (apply es_box; (iterate 5 exact rfl); intro g2)
    | (apply es_load; (iterate 5 exact rfl); first | (apply ld_blk hT; exact rfl; exact rfl; (repeat (first | exact List.mem_cons_self | apply List.mem_cons_of_mem | apply List.mem_append_right)); exact rfl; exact rfl) | (apply ld_all hT; exact rfl; exact rfl; (repeat (first | exact List.mem_cons_self | apply List.mem_cons_of_mem | apply List.mem_append_right)); exact rfl))
    | (apply es_box; (iterate 5 exact rfl); intro _) | (apply es_alloc hT; (iterate 5 exact rfl); intro _)
    | (apply aw_condT; (iterate 2 exact rfl)) | (apply aw_condF; (iterate 2 exact rfl))
    | (apply es_case; exact rfl; all_goals intro hb; all_goals (fail_if_success (change true = true at hb)); all_goals (fail_if_success (change false = false at hb)); all_goals (try dsimp only at hb); all_goals (try simp only [hb]); all_goals (first | replace hb := of_decide_eq_true hb | replace hb := of_decide_eq_false hb | replace hb := bne_t hb | replace hb := bne_f hb | replace hb := eq_of_beq hb | replace hb := ne_of_beq_false hb | skip); all_goals (try (exfalso; omega)))
    | (apply aw_cond; exact rfl; all_goals intro hb; all_goals (try dsimp only at hb); all_goals (try simp only [hb]); all_goals (first | replace hb := of_decide_eq_true hb | replace hb := of_decide_eq_false hb | replace hb := bne_t hb | replace hb := bne_f hb | replace hb := eq_of_beq hb | replace hb := ne_of_beq_false hb | skip); all_goals (try (exfalso; omega))))
  all_goals first
    | (exfalso; omega)
    | (apply ret1; exact rfl; exact ⟨rfl, by (repeat (first | exact dt_end | (apply dt_cons; · (repeat (first | exact sel0 | apply selS | apply selApp))) | apply dt_skip | apply dt_both))⟩)
    | skip
set_option maxHeartbeats 2000000 in
theorem audit_DeskN (W : World) (h : List Chunk) (AB : Option Addr) (cB : Nat) (bs : List BondR) (AP : Option Addr) (cP : Nat) (ps : List PartyR) (look beat : Int) (hrB : Reads W h AB bs.length 7 (bs.flatMap BondR.enc)) (hrP : Reads W h AP ps.length 3 (ps.flatMap PartyR.enc)) (hR : isR bs ps look beat = true)
    (x : DAd) (s : Dk) (bks : List BAd) (rows : List PRow) (h1 : s.trades = []) (h2 : s.asks = []) (h3 : s.head = 0) (h4 : s.now = 0) (hps : psOf s.cash rows = zeroPs ps.length bs.length) (hbk : ∀ b ∈ bks, b.l = []) (hlb : bks.length = bs.length) (hls : s.books.length = bs.length)
    (hd : ∀ c ∈ deskTab x s bks rows [], c ∈ h) : QSpec Tryz.prog W 69 [rulesV AB bs.length cB AP ps.length cP look beat, ptrV x.d] h (.bool true) := by
  refine QSpec.ofD (fun h' hs => ?_)
  have hd' : ∀ c ∈ deskTab x s bks rows [], c ∈ h' := fun c hc => hs c (hd c hc)
  have hrB' := hrB.mono hs
  have hrP' := hrP.mono hs
  obtain ⟨⟨b1, b2⟩, ⟨p1, p2⟩, lk1, lk2⟩ := isR_len hR
  have hFI := (firm_Is W h' AB cB bs AP cP ps look beat hrB' hrP' (by omega) (by omega)).cast (u := .bool true) (by rw [hR])
  have md : Chunk.blk x.d 176 (deskCs x s) ∈ h' := hd' _ (by unfold deskTab; (repeat (first | exact List.mem_cons_self | apply List.mem_cons_of_mem | apply List.mem_append_right)))
  have mb : Chunk.blk x.b 236 [x.trades.sl s.trades.length, .int .u64 s.head] ∈ h' := hd' _ (by unfold deskTab; (repeat (first | exact List.mem_cons_self | apply List.mem_cons_of_mem | apply List.mem_append_right)))
  have mt : x.trades.own s.trades.length 30 8 (s.trades.flatMap TradeR.enc) ∈ h' := hd' _ (by unfold deskTab; (repeat (first | exact List.mem_cons_self | apply List.mem_cons_of_mem | apply List.mem_append_right)))
  have ma : Chunk.blk x.a 232 [x.asks.sl s.asks.length] ∈ h' := hd' _ (by unfold deskTab; (repeat (first | exact List.mem_cons_self | apply List.mem_cons_of_mem | apply List.mem_append_right)))
  have mas : x.asks.own s.asks.length 106 10 (s.asks.flatMap AskR.enc) ∈ h' := hd' _ (by unfold deskTab; (repeat (first | exact List.mem_cons_self | apply List.mem_cons_of_mem | apply List.mem_append_right)))
  have mbk : x.books.own s.books.length 37 1 (bks.map BAd.ptr) ∈ h' := hd' _ (by unfold deskTab; (repeat (first | exact List.mem_cons_self | apply List.mem_cons_of_mem | apply List.mem_append_right)))
  have mps : ∀ c ∈ posTab x.p x.cash.A x.cash.c x.pos.A x.pos.c s.cash rows [], c ∈ h' := fun c hc => by
    refine hd' c ?_
    unfold posTab at hc
    rw [List.append_nil] at hc
    rcases List.mem_cons.1 hc with rfl | hc
    · unfold deskTab; (repeat (first | exact List.mem_cons_self | apply List.mem_cons_of_mem | apply List.mem_append_right))
    rcases List.mem_cons.1 hc with rfl | hc
    · unfold deskTab; (repeat (first | exact List.mem_cons_self | apply List.mem_cons_of_mem | apply List.mem_append_right))
    rcases List.mem_cons.1 hc with rfl | hc
    · unfold deskTab; (repeat (first | exact List.mem_cons_self | apply List.mem_cons_of_mem | apply List.mem_append_right))
    unfold deskTab
    iterate 18 refine List.mem_cons_of_mem _ ?_
    exact List.mem_append_right _ (List.mem_append_left _ hc)
  have mck : ∀ b ∈ bks, ∀ c ∈ BAd.ck b, c ∈ h' := fun b hb c hc => by
    refine hd' c ?_
    unfold deskTab
    iterate 18 refine List.mem_cons_of_mem _ ?_
    exact List.mem_append_left _ (List.mem_flatMap.2 ⟨b, hb, hc⟩)
  have hPs := hps
  have hTr := fun k (hk : ∀ c ∈ h', c ∈ k) => desk_Trades W k x s (hk _ md) (hk _ mb) (hk _ mt) (by rw [h1]; simp)
  have hAs := fun k (hk : ∀ c ∈ h', c ∈ k) => desk_Asks W k x s (hk _ md) (hk _ ma) (hk _ mas) (by rw [h2]; simp)
  have hHd := fun k (hk : ∀ c ∈ h', c ∈ k) => (desk_Head W x s _).mono (h' := k) (mem2P (hk _ md) (hk _ mb))
  have hPo := fun k (hk : ∀ c ∈ h', c ∈ k) => (desk_Pos W x s).mono (h' := k) (mem1P (hk _ md))
  have hNo := fun k (hk : ∀ c ∈ h', c ∈ k) => (desk_Now W x s).mono (h' := k) (mem1P (hk _ md))
  have hSu := fun k (hk : ∀ c ∈ h', c ∈ k) A c => (audit_Sums W k ps.length bs.length ⟨by omega, by omega⟩ A c [] reads_nil (by simp) (fun t ht => by cases ht) x.p x.cash.A x.cash.c x.pos.A x.pos.c s.cash rows (by rw [hPs]; exact zeroPs_ok _ _) (fun c hc => hk _ (mps c hc))).cast (u := .bool true) (by rw [hPs]; unfold sumsV; dsimp only [putAll]; rw [eqPs_refl])
  have hEn := fun k A c => (audit_Ended W k A c [] s.now look reads_nil (by simp) (by unfold inW; omega) (fun a ha => by cases ha))
  have hBo := fun i b hi k (hk : ∀ c ∈ h', c ∈ k) => (desk_Book W x s bks i b (by omega) hi (by omega)).mono (h' := k) (mem2P (hk _ md) (hk _ mbk))
  have hUn := fun b (hb : b ∈ bks) k (hk : ∀ c ∈ h', c ∈ k) => (audit_Uncrossed W b.p b.s.A b.s.c b.l (by rw [hbk b hb]; exact BookB.nil)).mono (h' := k) (fun c hc => hk _ (mck b hb c hc))
  have hOn := fun A c A2 c2 => audit_Once0 W A c A2 c2
  have hHe := fun A c => blot_Heads0 W A c
  rw [h1] at hTr
  rw [h2] at hAs
  rw [h3] at hHd
  rw [h4] at hNo hEn
  simp only [List.length_nil, List.flatMap_nil] at hTr hAs hSu hEn
  clear hd hd' md mb mt ma mas mbk mps mck hps
  refine spec_body Tryz.func69 rfl rfl Tryz.results69 Tryz.ntmps69 rfl rfl ?_
  refine aw_reads hrB' rfl (fun hA => ?_)
  repeat' (first
    | apply aw_seq | apply aw_region | apply aw_ret | apply aw_skip | apply aw_exit | apply aw_block | apply es_nil
    | (apply es_pure hT; (iterate 4 exact rfl)) | (apply es_skip; (iterate 3 exact rfl)) | (apply es_skip0; (iterate 2 exact rfl))
    | (apply es_i64 hT; (iterate 4 exact rfl); (iterate 2 (first | omega | (dsimp only; omega))))
    | (apply aw_draw [] [] hmix; decide +kernel)
    | (apply es_box; (iterate 5 exact rfl); intro g2)
    | (apply es_callQ (hs := (hFI.mono (by (intro c hc; (repeat (first | exact hc | apply List.mem_cons_of_mem | apply List.mem_append_right)))))); (iterate 7 exact rfl))
    | (apply es_load; (iterate 5 exact rfl); first | (apply ld_blk hT; exact rfl; exact rfl; (repeat (first | exact List.mem_cons_self | apply List.mem_cons_of_mem | apply List.mem_append_right)); exact rfl; exact rfl) | (apply ld_all hT; exact rfl; exact rfl; (repeat (first | exact List.mem_cons_self | apply List.mem_cons_of_mem | apply List.mem_append_right)); exact rfl))
    | (apply es_box; (iterate 5 exact rfl); intro _) | (apply es_alloc hT; (iterate 5 exact rfl); intro _)
    | (apply aw_condT; (iterate 2 exact rfl)) | (apply aw_condF; (iterate 2 exact rfl))
    | (apply es_case; exact rfl; all_goals intro hb; all_goals (fail_if_success (change true = true at hb)); all_goals (fail_if_success (change false = false at hb)); all_goals (try dsimp only at hb); all_goals (try simp only [hb]); all_goals (first | replace hb := of_decide_eq_true hb | replace hb := of_decide_eq_false hb | replace hb := bne_t hb | replace hb := bne_f hb | replace hb := eq_of_beq hb | replace hb := ne_of_beq_false hb | skip); all_goals (try (exfalso; omega)))
    | (apply aw_cond; exact rfl; all_goals intro hb; all_goals (try dsimp only at hb); all_goals (try simp only [hb]); all_goals (first | replace hb := of_decide_eq_true hb | replace hb := of_decide_eq_false hb | replace hb := bne_t hb | replace hb := bne_f hb | replace hb := eq_of_beq hb | replace hb := ne_of_beq_false hb | skip); all_goals (try (exfalso; omega))))
  all_goals try (exfalso; omega)
  refine aw_loopD (α := Nat) (E := fun k => [(1, ptrV x.d), (2, .pointer (some ⟨g2, 0, none⟩)), (18, .int .i64 bs.length), (19, .int .i64 k)]) (H := fun _ => .blk g2 61 [.slice AB bs.length cB, .slice AP ps.length cP, .int .i64 look, .int .i64 beat] :: h') (μ := fun k => bs.length - k)
    (S := fun k => k ≤ bs.length) 0 (Nat.zero_le _) ⟨rfl, rfl, rfl, rfl, trivial⟩ (by (repeat (first | exact dt_end | (apply dt_cons; · (repeat (first | exact sel0 | apply selS | apply selApp))) | apply dt_skip | apply dt_both))) ?_
  intro k hk
  by_cases hlt : k < bs.length
  · obtain ⟨b, hbb⟩ : ∃ b, bks[k]? = some b := ⟨bks[k]'(by omega), List.getElem?_eq_getElem (by omega)⟩
    have hbm := List.mem_of_getElem? hbb
    have hU := fun k hk => (hUn b hbm k hk).cast (u := .bool true) (by rw [hbk b hbm]; rfl)
    have hd1 : decide ((k : Int) < (bs.length : Int)) = true := by simp; omega
    repeat' (first
      | apply aw_seq | apply aw_region | apply aw_ret | apply aw_skip | apply aw_exit | apply aw_block | apply es_nil
      | (apply es_pure hT; (iterate 4 exact rfl)) | (apply es_skip; (iterate 3 exact rfl)) | (apply es_skip0; (iterate 2 exact rfl))
      | (apply es_i64 hT; (iterate 4 exact rfl); (iterate 2 (first | omega | (dsimp only; omega))))
      | (apply aw_draw [] [] hmix; decide +kernel)
      | (apply es_callQ (hs := (hBo k b hbb _ (by (intro c hc; (repeat (first | exact hc | apply List.mem_cons_of_mem | apply List.mem_append_right)))))); (iterate 7 exact rfl))
      | (apply es_callQ (hs := (hU _ (by (intro c hc; (repeat (first | exact hc | apply List.mem_cons_of_mem | apply List.mem_append_right)))))); (iterate 7 exact rfl))
      | (apply es_load; (iterate 5 exact rfl); first | (apply ld_blk hT; exact rfl; exact rfl; (repeat (first | exact List.mem_cons_self | apply List.mem_cons_of_mem | apply List.mem_append_right)); exact rfl; exact rfl) | (apply ld_all hT; exact rfl; exact rfl; (repeat (first | exact List.mem_cons_self | apply List.mem_cons_of_mem | apply List.mem_append_right)); exact rfl))
      | (apply es_box; (iterate 5 exact rfl); intro _) | (apply es_alloc hT; (iterate 5 exact rfl); intro _)
      | (apply aw_condT; (iterate 2 exact rfl)) | (apply aw_condF; (iterate 2 exact rfl))
      | (apply es_case; exact rfl; all_goals intro hb; all_goals (fail_if_success (change true = true at hb)); all_goals (fail_if_success (change false = false at hb)); all_goals (try dsimp only at hb); all_goals (try simp only [hb]); all_goals (first | replace hb := of_decide_eq_true hb | replace hb := of_decide_eq_false hb | replace hb := bne_t hb | replace hb := bne_f hb | replace hb := eq_of_beq hb | replace hb := ne_of_beq_false hb | skip); all_goals (try (exfalso; omega)))
      | (apply aw_cond; exact rfl; all_goals intro hb; all_goals (try dsimp only at hb); all_goals (try simp only [hb]); all_goals (first | replace hb := of_decide_eq_true hb | replace hb := of_decide_eq_false hb | replace hb := bne_t hb | replace hb := bne_f hb | replace hb := eq_of_beq hb | replace hb := ne_of_beq_false hb | skip); all_goals (try (exfalso; omega))))
    all_goals first
      | (exfalso; omega)
      | exact loopq_end (k + 1) (by (try dsimp only); omega) (by (try dsimp only); omega) ⟨rfl, rfl, rfl, rfl, trivial⟩ (by (repeat (first | exact dt_end | (apply dt_cons; · (repeat (first | exact sel0 | apply selS | apply selApp))) | apply dt_skip | apply dt_both)))
      | skip
  · obtain rfl : k = bs.length := by omega
    have hd1 : decide ((bs.length : Int) < (bs.length : Int)) = false := by simp
    repeat' (first
      | apply aw_seq | apply aw_region | apply aw_ret | apply aw_skip | apply aw_exit | apply aw_block | apply es_nil
      | (apply es_pure hT; (iterate 4 exact rfl)) | (apply es_skip; (iterate 3 exact rfl)) | (apply es_skip0; (iterate 2 exact rfl))
      | (apply es_i64 hT; (iterate 4 exact rfl); (iterate 2 (first | omega | (dsimp only; omega))))
      | (apply aw_draw [] [] hmix; decide +kernel)
      | (apply aw_treeD [56, 60, 23, 70, 53, 83] [55] (.step 0 <| .step 1 <| .step 2 <| .step 3 <| .step 4 <| .step 5 <| .step 6 <| .step 7 <| .step 8 <| .step 9 <| .step 10 <| .step 11 <| .step 12 <| .step 13 <| .step 14 <| .step 15 <| .step 16 <| .step 17 <| .step 19 <| .step 18 <| .step 20 <| .step 21 <| .step 22 <| .step 23 <| .step 25 <| .step 27 <| .step 28 <| .step 24 <| .step 26 <| .step 29 <| .step 30 <| .step 31 <| .nil) hmix; decide +kernel) | apply ep_nil | apply ep_alt | (apply ep_step; exact rfl)
      | (apply es_call (hs := (hTr _ (by (intro c hc; (repeat (first | exact hc | apply List.mem_cons_of_mem | apply List.mem_append_right)))))); (iterate 7 exact rfl); rintro _ _ ⟨A6, c6, rfl, rfl⟩)
      | (apply es_callQ (hs := ((hHe _ _).mono (by simp))); (iterate 7 exact rfl))
      | (apply es_callQ (hs := (hHd _ (by (intro c hc; (repeat (first | exact hc | apply List.mem_cons_of_mem | apply List.mem_append_right)))))); (iterate 7 exact rfl))
      | (apply es_callQ (hs := (hPo _ (by (intro c hc; (repeat (first | exact hc | apply List.mem_cons_of_mem | apply List.mem_append_right)))))); (iterate 7 exact rfl))
      | (apply es_callQ (hs := (hSu _ (by (intro c hc; (repeat (first | exact hc | apply List.mem_cons_of_mem | apply List.mem_append_right)))) _ _)); (iterate 7 exact rfl))
      | (apply es_callA (hs := (hAs _ (by (intro c hc; (repeat (first | exact hc | apply List.mem_cons_of_mem | apply List.mem_append_right)))))); (iterate 7 exact rfl); (rintro _ _ ⟨A7, c7, rfl, rfl⟩; refine ⟨[_], rfl, ?_⟩))
      | (apply es_callQ (hs := ((hOn _ _ _ _).mono (by simp))); (iterate 7 exact rfl))
      | (apply es_callQ (hs := (hNo _ (by (intro c hc; (repeat (first | exact hc | apply List.mem_cons_of_mem | apply List.mem_append_right)))))); (iterate 7 exact rfl))
      | (apply es_callQ (hs := (hEn _ _ _)); (iterate 7 exact rfl))
      | (apply es_load; (iterate 5 exact rfl); first | (apply ld_blk hT; exact rfl; exact rfl; (repeat (first | exact List.mem_cons_self | apply List.mem_cons_of_mem | apply List.mem_append_right)); exact rfl; exact rfl) | (apply ld_all hT; exact rfl; exact rfl; (repeat (first | exact List.mem_cons_self | apply List.mem_cons_of_mem | apply List.mem_append_right)); exact rfl))
      | (apply es_box; (iterate 5 exact rfl); intro _) | (apply es_alloc hT; (iterate 5 exact rfl); intro _)
      | (apply aw_condT; (iterate 2 exact rfl)) | (apply aw_condF; (iterate 2 exact rfl))
      | (apply es_case; exact rfl; all_goals intro hb; all_goals (fail_if_success (change true = true at hb)); all_goals (fail_if_success (change false = false at hb)); all_goals (try dsimp only at hb); all_goals (try simp only [hb]); all_goals (first | replace hb := of_decide_eq_true hb | replace hb := of_decide_eq_false hb | replace hb := bne_t hb | replace hb := bne_f hb | replace hb := eq_of_beq hb | replace hb := ne_of_beq_false hb | skip); all_goals (try (exfalso; omega)))
      | (apply aw_cond; exact rfl; all_goals intro hb; all_goals (try dsimp only at hb); all_goals (try simp only [hb]); all_goals (first | replace hb := of_decide_eq_true hb | replace hb := of_decide_eq_false hb | replace hb := bne_t hb | replace hb := bne_f hb | replace hb := eq_of_beq hb | replace hb := ne_of_beq_false hb | skip); all_goals (try (exfalso; omega))))
    all_goals first
      | (exfalso; omega)
      | (apply ret1; exact rfl; exact ⟨rfl, by (repeat (first | exact dt_end | (apply dt_cons; · (repeat (first | exact sel0 | apply selS | apply selApp))) | apply dt_skip | apply dt_both))⟩)
      | skip
def ka27 : AskR := ⟨0, 0, 0, 0, 0, 0, 3, 0, 1, 0⟩
set_option maxHeartbeats 1000000 in
theorem known27 (W : World) : QSpec Tryz.prog W 25 [] [] (.bool true) := by
  refine QSpec.ofD (fun h' hs => ?_)
  have hR : isR [kb1, kb2] kps 3 50 = true := by decide +kernel
  have hr := fun k => rules_0 W k
  have hN := fun k g1 g2 (m1 : Chunk.own (some ⟨g1, 0, none⟩) 2 2 162 7 ([kb1, kb2].flatMap BondR.enc) ∈ k) (m2 : Chunk.own (some ⟨g2, 0, none⟩) 5 5 165 3 (kps.flatMap PartyR.enc) ∈ k) =>
    (desk_New W k (some ⟨g1, 0, none⟩) 2 [kb1, kb2] (some ⟨g2, 0, none⟩) 5 kps 3 50 (Reads.enc BondR.enc_len BondR.enc_one m1 rfl) (Reads.enc PartyR.enc_len PartyR.enc_one m2 rfl) (by decide) (by decide)).mono (R' := fun v h' => ∃ x bks rows, v = ptrV x.d ∧ h' = deskTab x (newDk [kb1, kb2] kps 3 50) bks rows k ∧ deskFits (newDk [kb1, kb2] kps 3 50) bks rows) (fun v h' hh => by
      rcases hh with ⟨a, _⟩ | ⟨_, a⟩
      · rw [hR] at a; cases a
      · exact a)
  have hD := fun k g1 g2 (m1 : Chunk.own (some ⟨g1, 0, none⟩) 2 2 162 7 ([kb1, kb2].flatMap BondR.enc) ∈ k) (m2 : Chunk.own (some ⟨g2, 0, none⟩) 5 5 165 3 (kps.flatMap PartyR.enc) ∈ k) x bks rows (hf : deskFits (newDk [kb1, kb2] kps 3 50) bks rows) (hk : ∀ c ∈ deskTab x (newDk [kb1, kb2] kps 3 50) bks rows [], c ∈ k) =>
    audit_DeskN W k (some ⟨g1, 0, none⟩) 2 [kb1, kb2] (some ⟨g2, 0, none⟩) 5 kps 3 50 (Reads.enc BondR.enc_len BondR.enc_one m1 rfl) (Reads.enc PartyR.enc_len PartyR.enc_one m2 rfl) hR x (newDk [kb1, kb2] kps 3 50) bks rows rfl rfl rfl rfl (by unfold psOf; rw [hf.2]; rfl) (fun b hb => by
      have h1 : b.l ∈ bks.map BAd.l := List.mem_map.2 ⟨b, hb, rfl⟩
      rw [hf.1] at h1
      exact (List.mem_replicate.1 h1).2) (by have h9 := congrArg List.length hf.1; rw [List.length_map] at h9; exact h9) rfl hk
  have hNil := fun g1 g2 => audit_DeskNil W (some ⟨g1, 0, none⟩) 2 2 (some ⟨g2, 0, none⟩) 5 5 3 50
  have hE := fun k g (m : Chunk.own (some ⟨g, 0, none⟩) 1 1 106 10 (ka27.enc) ∈ k) => (audit_Ended W k (some ⟨g, 0, none⟩) 1 [ka27] 5 2 (Reads.enc AskR.enc_len AskR.enc_one m rfl) (by decide) (by unfold inW; omega) (fun a ha => by
    rw [List.mem_singleton.1 ha]
    show inW 3 ∧ inW (3 + 2)
    unfold inW; omega)).cast (u := .bool false) (by rfl)
  refine spec_body Tryz.func25 rfl rfl Tryz.results25 Tryz.ntmps25 rfl rfl ?_
  repeat' (first
    | apply aw_seq | apply aw_region | apply aw_ret | apply aw_skip | apply aw_exit | apply aw_block | apply es_nil
    | (apply es_pure hT; (iterate 4 exact rfl)) | (apply es_skip; (iterate 3 exact rfl)) | (apply es_skip0; (iterate 2 exact rfl))
    | (apply es_i64 hT; (iterate 4 exact rfl); (iterate 2 (first | omega | (dsimp only; omega))))
    | (apply aw_draw [] [] hmix; decide +kernel)
    | (apply es_call (hs := (hr _)); (iterate 7 exact rfl); first | ((fail_if_success (have q := ga1)); rintro _ _ ⟨ga1, gb1, rfl, rfl⟩) | ((fail_if_success (have q := ga2)); rintro _ _ ⟨ga2, gb2, rfl, rfl⟩) | rintro _ _ ⟨ga3, gb3, rfl, rfl⟩)
    | (apply es_call (hs := (hN _ ga2 gb2 (by (repeat (first | exact List.mem_cons_self | apply List.mem_cons_of_mem | apply List.mem_append_right))) (by (repeat (first | exact List.mem_cons_self | apply List.mem_cons_of_mem | apply List.mem_append_right))))); (iterate 7 exact rfl); rintro _ _ ⟨x, bks, rows, rfl, rfl, hf⟩)
    | (apply es_callQ (hs := (hD _ ga1 gb1 (by (repeat (first | exact List.mem_cons_self | apply List.mem_cons_of_mem | apply List.mem_append_right))) (by (repeat (first | exact List.mem_cons_self | apply List.mem_cons_of_mem | apply List.mem_append_right))) x bks rows hf (by intro c hc; (repeat (first | exact deskTab_mem c hc | apply List.mem_cons_of_mem))))); (iterate 7 exact rfl))
    | (apply es_callQ (hs := ((hNil _ _).mono (by simp))); (iterate 7 exact rfl))
    | (apply es_callQ (hs := ((audit_UncrossedNil W).mono (by simp))); (iterate 7 exact rfl))
    | (apply es_buildS hT (cs := ka27.enc); (iterate 4 exact rfl))
    | (apply es_buildSlice hT; (iterate 12 exact rfl); intro g15)
    | (apply es_callQ (hs := (hE _ g15 (by (repeat (first | exact List.mem_cons_self | apply List.mem_cons_of_mem | apply List.mem_append_right))))); (iterate 7 exact rfl))
    | (apply es_load; (iterate 5 exact rfl); first | (apply ld_blk hT; exact rfl; exact rfl; (repeat (first | exact List.mem_cons_self | apply List.mem_cons_of_mem | apply List.mem_append_right)); exact rfl; exact rfl) | (apply ld_all hT; exact rfl; exact rfl; (repeat (first | exact List.mem_cons_self | apply List.mem_cons_of_mem | apply List.mem_append_right)); exact rfl))
    | (apply es_box; (iterate 5 exact rfl); intro _) | (apply es_alloc hT; (iterate 5 exact rfl); intro _)
    | (apply aw_condT; (iterate 2 exact rfl)) | (apply aw_condF; (iterate 2 exact rfl))
    | (apply es_case; exact rfl; all_goals intro hb; all_goals (fail_if_success (change true = true at hb)); all_goals (fail_if_success (change false = false at hb)); all_goals (try dsimp only at hb); all_goals (try simp only [hb]); all_goals (first | replace hb := of_decide_eq_true hb | replace hb := of_decide_eq_false hb | replace hb := bne_t hb | replace hb := bne_f hb | replace hb := eq_of_beq hb | replace hb := ne_of_beq_false hb | skip); all_goals (try (exfalso; omega)))
    | (apply aw_cond; exact rfl; all_goals intro hb; all_goals (try dsimp only at hb); all_goals (try simp only [hb]); all_goals (first | replace hb := of_decide_eq_true hb | replace hb := of_decide_eq_false hb | replace hb := bne_t hb | replace hb := bne_f hb | replace hb := eq_of_beq hb | replace hb := ne_of_beq_false hb | skip); all_goals (try (exfalso; omega))))
  all_goals first
    | (exfalso; omega)
    | (apply ret1; exact rfl; exact ⟨rfl, by (refine dt_trans ?_ (deskTab_drop (x := x) (s := newDk [kb1, kb2] kps 3 50) (bks := bks) (rows := rows)); (repeat (first | exact dt_end | (apply dt_cons; · (repeat (first | exact sel0 | apply selS | apply selApp))) | apply dt_skip | apply dt_both)))⟩)
    | skip
end Go.Proofs.YtjcnaeengplcbaaGreat

namespace Go.Proofs.YtjcnaeengplcbaaGreat
open Go Go.Sl
def bookOf (ls : List Order) : List Order := ls.foldl (fun l o => addO o l) []
theorem bookOf_add (ls : List Order) (x : Order) : bookOf (ls ++ (some x).toList) = addO x (bookOf ls) := by
  simp [bookOf, List.foldl_append]
theorem bookOf_B (ls : List Order) : BookB (bookOf ls) := by
  have : ∀ (ls l : List Order), BookB l → BookB (ls.foldl (fun l o => addO o l) l) := by
    intro ls
    induction ls with
    | nil => intro l h; exact h
    | cons x ls ih => intro l h; rw [List.foldl_cons]; exact ih _ (h.add x)
  exact this ls [] BookB.nil
end Go.Proofs.YtjcnaeengplcbaaGreat

set_option linter.unusedSimpArgs false
set_option linter.unusedVariables false
namespace Go.Proofs.YtjcnaeengplcbaaGreat
open Go Go.Sl

structure FillR where
  maker : Int
  taker : Int
  mparty : Int
  tparty : Int
  price : Int
  qty : Int
  left : Int
  deriving DecidableEq
def FillR.enc (f : FillR) : List Value := [.int .i64 f.maker, .int .i64 f.taker, .int .i64 f.mparty, .int .i64 f.tparty, .int .i64 f.price, .int .i64 f.qty, .int .i64 f.left]
theorem FillR.enc_len (f : FillR) : f.enc.length = 7 := rfl
theorem FillR.enc_one (f : FillR) : ∀ x ∈ f.enc, x.oneCell' = true := List.all_eq_true.1 (rfl : f.enc.all Value.oneCell' = true)
structure GoneR where
  id : Int
  owner : Int
  left : Int
  deriving DecidableEq
def GoneR.enc (f : GoneR) : List Value := [.int .i64 f.id, .int .i64 f.owner, .int .i64 f.left]
theorem GoneR.enc_len (f : GoneR) : f.enc.length = 3 := rfl
theorem GoneR.enc_one (f : GoneR) : ∀ x ∈ f.enc, x.oneCell' = true := List.all_eq_true.1 (rfl : f.enc.all Value.oneCell' = true)

/-! ### the book along the way -/
theorem BookB.drop {l : List Order} (h : BookB l) (id : Int) : BookB (dropO id l) := h.sub (dropO_sub id l)
/-! ### the first one gone -/
end Go.Proofs.YtjcnaeengplcbaaGreat

set_option linter.unusedSimpArgs false
set_option linter.unusedVariables false
namespace Go.Proofs.YtjcnaeengplcbaaGreat
open Go Go.Sl
attribute [local irreducible] AW ES EP Ld RetQ
set_option maxRecDepth 100000

theorem ref2_Takes (W : World) (s a b : Int) : QSpec Tryz.prog W 88 [.int .i64 s, .int .i64 a, .int .i64 b] [] (.bool (isB s && !betterB s b a)) := by
  refine QSpec.ofD (fun h' hs => ?_)
  have hI := ref2_Is W s
  have hB := ref2_Better W s b a
  refine spec_body Tryz.func88 rfl rfl Tryz.results88 Tryz.ntmps88 rfl rfl ?_
  repeat' (first
    | apply aw_seq | apply aw_region | apply aw_ret | apply aw_skip | apply aw_exit | apply aw_block | apply es_nil
    | (apply es_pure hT; (iterate 4 exact rfl)) | (apply es_skip; (iterate 3 exact rfl)) | (apply es_skip0; (iterate 2 exact rfl))
    | (apply es_i64 hT; (iterate 4 exact rfl); (iterate 2 (first | omega | (dsimp only; omega))))
    | (apply aw_draw [] [] hmix; decide +kernel)
    | (apply es_callQ (hs := (hI.mono (by simp))); (iterate 7 exact rfl))
    | (apply es_callQ (hs := (hB.mono (by simp))); (iterate 7 exact rfl))
    | (apply es_load; (iterate 5 exact rfl); first | (apply ld_blk hT; exact rfl; exact rfl; (repeat (first | exact List.mem_cons_self | apply List.mem_cons_of_mem)); exact rfl; exact rfl) | (apply ld_all hT; exact rfl; exact rfl; (repeat (first | exact List.mem_cons_self | apply List.mem_cons_of_mem)); exact rfl))
    | (apply es_box; (iterate 5 exact rfl); intro _) | (apply es_alloc hT; (iterate 5 exact rfl); intro _)
    | (apply aw_condT; (iterate 2 exact rfl)) | (apply aw_condF; (iterate 2 exact rfl))
    | (apply es_case; exact rfl; all_goals intro hb; all_goals (fail_if_success (change true = true at hb)); all_goals (fail_if_success (change false = false at hb)); all_goals (try dsimp only at hb); all_goals (try simp only [hb]); all_goals (first | replace hb := of_decide_eq_true hb | replace hb := of_decide_eq_false hb | replace hb := bne_t hb | replace hb := bne_f hb | replace hb := eq_of_beq hb | replace hb := ne_of_beq_false hb | skip); all_goals (try (exfalso; omega)))
    | (apply aw_cond; exact rfl; all_goals intro hb; all_goals (try dsimp only at hb); all_goals (try simp only [hb]); all_goals (first | replace hb := of_decide_eq_true hb | replace hb := of_decide_eq_false hb | replace hb := bne_t hb | replace hb := bne_f hb | replace hb := eq_of_beq hb | replace hb := ne_of_beq_false hb | skip); all_goals (try (exfalso; omega))))
  all_goals
    apply ret1; exact rfl
    refine ⟨?_, by (repeat (first | exact dt_end | apply dt_skip))⟩
    simp [*]
end Go.Proofs.YtjcnaeengplcbaaGreat

set_option linter.unusedSimpArgs false
set_option linter.unusedVariables false
namespace Go.Proofs.YtjcnaeengplcbaaGreat
open Go Go.Sl
attribute [local irreducible] AW ES EP Ld RetQ
set_option maxRecDepth 100000

set_option maxHeartbeats 1000000 in
theorem both27 (W : World) (h : List Chunk) (A0 : Option Addr) (c0 : Nat) (ls : List Order) (hr0 : Reads W h A0 ls.length 6 (ls.flatMap Order.enc)) (hb : ls.length ≤ 1000000) :
    FSpec Tryz.prog W 26 [.slice A0 ls.length c0] h (fun v h' => ∃ p A c q A' c', v = .tuple #[.pointer (some ⟨p, 0, none⟩), .pointer (some ⟨q, 0, none⟩)] ∧ h' = bookTab p A c (bookOf ls) (refB q A' c' (bookOf ls) h)) := by
  refine FSpec.dropTo ?_
  refine spec_body Tryz.func26 rfl rfl Tryz.results26 Tryz.ntmps26 rfl rfl ?_
  refine aw_reads hr0 (by rfl) (fun hA0 => ?_)
  repeat' (first
    | apply aw_seq | apply aw_region | apply aw_ret | apply aw_skip | apply aw_exit | apply aw_block | apply es_nil
    | (apply es_pure hT; (iterate 4 exact rfl)) | (apply es_skip; (iterate 3 exact rfl)) | (apply es_skip0; (iterate 2 exact rfl))
    | (apply es_i64 hT; (iterate 4 exact rfl); (iterate 2 (first | omega | (dsimp only; omega))))
    | (apply aw_draw [] [] hmix; decide +kernel)
    | (apply es_call (hs := (book_New W _)); (iterate 7 exact rfl); rintro _ _ ⟨p, A, c, rfl, rfl⟩)
    | (apply es_build hT; (iterate 4 exact rfl))
    | (apply es_box; (iterate 5 exact rfl); intro q)
    | (apply es_load; (iterate 5 exact rfl); first | (apply ld_blk hT; exact rfl; exact rfl; (repeat (first | exact List.mem_cons_self | apply List.mem_cons_of_mem | apply List.mem_append_right)); exact rfl; exact rfl) | (apply ld_all hT; exact rfl; exact rfl; (repeat (first | exact List.mem_cons_self | apply List.mem_cons_of_mem | apply List.mem_append_right)); exact rfl))
    | (apply es_box; (iterate 5 exact rfl); intro _) | (apply es_alloc hT; (iterate 5 exact rfl); intro _)
    | (apply aw_condT; (iterate 2 exact rfl)) | (apply aw_condF; (iterate 2 exact rfl))
    | (apply es_case; exact rfl; all_goals intro hb; all_goals (fail_if_success (change true = true at hb)); all_goals (fail_if_success (change false = false at hb)); all_goals (try dsimp only at hb); all_goals (try simp only [hb]); all_goals (first | replace hb := of_decide_eq_true hb | replace hb := of_decide_eq_false hb | replace hb := bne_t hb | replace hb := bne_f hb | replace hb := eq_of_beq hb | replace hb := ne_of_beq_false hb | skip); all_goals (try (exfalso; omega)))
    | (apply aw_cond; exact rfl; all_goals intro hb; all_goals (try dsimp only at hb); all_goals (try simp only [hb]); all_goals (first | replace hb := of_decide_eq_true hb | replace hb := of_decide_eq_false hb | replace hb := bne_t hb | replace hb := bne_f hb | replace hb := eq_of_beq hb | replace hb := ne_of_beq_false hb | skip); all_goals (try (exfalso; omega))))
  refine aw_conv (fun w hw => ⟨_, hw.own_nil 82 6, ?_⟩)
  refine aw_loop (α := Nat × Option Addr × Nat × Option Addr × Nat) (E := fun x => [(0, .slice A0 ls.length c0), (4, .pointer (some ⟨p, 0, none⟩)), (5, .pointer (some ⟨q, 0, none⟩)), (6, .int .i64 x.1)])
    (H := fun x => bookTab p x.2.1 x.2.2.1 (bookOf (ls.take x.1)) (refB q x.2.2.2.1 x.2.2.2.2 (bookOf (ls.take x.1)) h)) (μ := fun x => ls.length - x.1)
    (S := fun x => x.1 ≤ ls.length) (0, A, c, none, 0) (J := [])
    (Nat.zero_le _) ⟨rfl, rfl, rfl, rfl, trivial⟩ (by show List.Perm (_ :: _ :: _ :: _ :: h) (_ :: _ :: _ :: _ :: h); exact pull2 (selS (selS sel0)) ((selS (selS sel0)).trans (sel1.cons _))) ?_
  rintro ⟨k, A1, c1, A2, c2⟩ hk
  dsimp only at hk ⊢
  by_cases hlt : k < ls.length
  · obtain ⟨x, hx⟩ : ∃ x, ls[k]? = some x := ⟨ls[k]'(by omega), List.getElem?_eq_getElem (by omega)⟩
    have hx2 : ls[(k : Int).toNat]? = some x := by simpa using hx
    have hA := hA0 (by omega)
    have hd1 : decide ((k : Int) < (ls.length : Int)) = true := by simp; omega
    have hB := bookOf_B (ls.take k)
    have hst : bookOf (ls.take (k + 1)) = addO x (bookOf (ls.take k)) := by rw [List.take_add_one, hx, bookOf_add]
    generalize bookOf (ls.take k) = l at hB hst ⊢
    have hc1 := (book_Add W (refB q A2 c2 l h) p A1 c1 l x hB.le)
    have hc2 := fun A3 c3 => (ref14_Add W (bookTab p A3 c3 (addO x l) h) q A2 c2 l x hB.le).perm (h' := bookTab p A3 c3 (addO x l) (refB q A2 c2 l h)) (pull2 (selS (selS sel0)) (selS (selS sel0)))
    repeat' (first
      | apply aw_seq | apply aw_region | apply aw_ret | apply aw_skip | apply aw_exit | apply aw_block | apply es_nil
      | (apply es_pure hT; (iterate 4 exact rfl)) | (apply es_skip; (iterate 3 exact rfl)) | (apply es_skip0; (iterate 2 exact rfl))
      | (apply es_i64 hT; (iterate 4 exact rfl); (iterate 2 (first | omega | (dsimp only; omega))))
      | (apply aw_draw [] [] hmix; decide +kernel)
      | (apply es_idx hT; (iterate 8 exact rfl); (iterate 2 omega); exact hA)
      | (apply es_load; (iterate 5 exact rfl); exact ld_elem hT rfl rfl (hr0.mono (fun x hx => .tail _ (.tail _ (.tail _ (.tail _ hx))))) Order.enc_len rfl hx2 rfl)
      | (apply es_call (hs := hc1); (iterate 7 exact rfl); rintro _ _ ⟨rfl, A3, c3, rfl⟩)
      | (apply es_call (hs := (hc2 _ _)); (iterate 7 exact rfl); rintro _ _ ⟨rfl, A4, c4, rfl⟩)
      | (apply es_load; (iterate 5 exact rfl); first | (apply ld_blk hT; exact rfl; exact rfl; (repeat (first | exact List.mem_cons_self | apply List.mem_cons_of_mem | apply List.mem_append_right)); exact rfl; exact rfl) | (apply ld_all hT; exact rfl; exact rfl; (repeat (first | exact List.mem_cons_self | apply List.mem_cons_of_mem | apply List.mem_append_right)); exact rfl))
      | (apply es_box; (iterate 5 exact rfl); intro _) | (apply es_alloc hT; (iterate 5 exact rfl); intro _)
      | (apply aw_condT; (iterate 2 exact rfl)) | (apply aw_condF; (iterate 2 exact rfl))
      | (apply es_case; exact rfl; all_goals intro hb; all_goals (fail_if_success (change true = true at hb)); all_goals (fail_if_success (change false = false at hb)); all_goals (try dsimp only at hb); all_goals (try simp only [hb]); all_goals (first | replace hb := of_decide_eq_true hb | replace hb := of_decide_eq_false hb | replace hb := bne_t hb | replace hb := bne_f hb | replace hb := eq_of_beq hb | replace hb := ne_of_beq_false hb | skip); all_goals (try (exfalso; omega)))
      | (apply aw_cond; exact rfl; all_goals intro hb; all_goals (try dsimp only at hb); all_goals (try simp only [hb]); all_goals (first | replace hb := of_decide_eq_true hb | replace hb := of_decide_eq_false hb | replace hb := bne_t hb | replace hb := bne_f hb | replace hb := eq_of_beq hb | replace hb := ne_of_beq_false hb | skip); all_goals (try (exfalso; omega))))
    all_goals first
      | (exfalso; omega)
      | (refine loopq_end (k + 1, A3, c3, A4, c4) (by dsimp only; omega) (by dsimp only; omega) ⟨rfl, rfl, rfl, rfl, trivial⟩ ?_
         dsimp only
         rw [hst]
         apply dt_cons; (repeat (first | exact sel0 | apply selS | apply selApp))
         apply dt_cons; (repeat (first | exact sel0 | apply selS | apply selApp))
         apply dt_cons; (repeat (first | exact sel0 | apply selS | apply selApp))
         apply dt_cons; (repeat (first | exact sel0 | apply selS | apply selApp))
         (repeat (first | exact dt_end | apply dt_skip)))
      | skip
  · obtain rfl : k = ls.length := by omega
    have hd1 : decide ((ls.length : Int) < (ls.length : Int)) = false := by simp
    rw [List.take_length]
    repeat' (first
      | apply aw_seq | apply aw_region | apply aw_ret | apply aw_skip | apply aw_exit | apply aw_block | apply es_nil
      | (apply es_pure hT; (iterate 4 exact rfl)) | (apply es_skip; (iterate 3 exact rfl)) | (apply es_skip0; (iterate 2 exact rfl))
      | (apply es_i64 hT; (iterate 4 exact rfl); (iterate 2 (first | omega | (dsimp only; omega))))
      | (apply aw_draw [] [] hmix; decide +kernel)
      | (apply es_load; (iterate 5 exact rfl); first | (apply ld_blk hT; exact rfl; exact rfl; (repeat (first | exact List.mem_cons_self | apply List.mem_cons_of_mem | apply List.mem_append_right)); exact rfl; exact rfl) | (apply ld_all hT; exact rfl; exact rfl; (repeat (first | exact List.mem_cons_self | apply List.mem_cons_of_mem | apply List.mem_append_right)); exact rfl))
      | (apply es_box; (iterate 5 exact rfl); intro _) | (apply es_alloc hT; (iterate 5 exact rfl); intro _)
      | (apply aw_condT; (iterate 2 exact rfl)) | (apply aw_condF; (iterate 2 exact rfl))
      | (apply es_case; exact rfl; all_goals intro hb; all_goals (fail_if_success (change true = true at hb)); all_goals (fail_if_success (change false = false at hb)); all_goals (try dsimp only at hb); all_goals (try simp only [hb]); all_goals (first | replace hb := of_decide_eq_true hb | replace hb := of_decide_eq_false hb | replace hb := bne_t hb | replace hb := bne_f hb | replace hb := eq_of_beq hb | replace hb := ne_of_beq_false hb | skip); all_goals (try (exfalso; omega)))
      | (apply aw_cond; exact rfl; all_goals intro hb; all_goals (try dsimp only at hb); all_goals (try simp only [hb]); all_goals (first | replace hb := of_decide_eq_true hb | replace hb := of_decide_eq_false hb | replace hb := bne_t hb | replace hb := bne_f hb | replace hb := eq_of_beq hb | replace hb := ne_of_beq_false hb | skip); all_goals (try (exfalso; omega))))
    all_goals first
      | (exfalso; omega)
      | (apply ret2; exact rfl; exact rfl; exact ⟨_, dt_end, p, A1, c1, q, A2, c2, rfl, rfl⟩)

theorem same27 (W : World) (h : List Chunk) (p q : Nat) (A A' : Option Addr) (c c' : Nat) (l : List Order) (hB : BookB l) (n1 : Chunk.blk p 193 [.slice A l.length c] ∈ h) (n2 : Chunk.own A l.length c 82 6 (l.flatMap Order.enc) ∈ h)
    (n3 : Chunk.blk q 97 [.slice A' l.length c'] ∈ h) (n4 : Chunk.own A' l.length c' 82 6 (l.flatMap Order.enc) ∈ h) :
    QSpec Tryz.prog W 29 [.pointer (some ⟨p, 0, none⟩), .pointer (some ⟨q, 0, none⟩)] h (.bool true) := by
  refine QSpec.ofD (fun h' hs => ?_)
  have m1 := hs _ n1
  have m2 := hs _ n2
  have m3 := hs _ n3
  have m4 := hs _ n4
  have hbl := hB.len
  have hs1 := sideO_len 1 l
  have hs2 := sideO_len 2 l
  have hS1 := fun h m1 m2 => book_Side W h p A c l 1 m1 m2 hB.le hB.seq hB.side
  have rS1 := fun h m1 m2 => ref14_Side W h q A' c' l 1 m1 m2 hB.le
  have hS2 := fun h m1 m2 => book_Side W h p A c l 2 m1 m2 hB.le hB.seq hB.side
  have rS2 := fun h m1 m2 => ref14_Side W h q A' c' l 2 m1 m2 hB.le
  have hLen := fun h m1 m2 => (book_Len W p A c l).mono (h' := h) (memPairB m1 m2)
  generalize sideO 1 l = s1 at hS1 rS1 hs1
  generalize sideO 2 l = s2 at hS2 rS2 hs2
  refine spec_body Tryz.func29 rfl rfl Tryz.results29 Tryz.ntmps29 rfl rfl ?_
  repeat' (first
    | (apply es_sameB hT; (iterate 5 exact rfl))
    | apply aw_seq | apply aw_region | apply aw_ret | apply aw_skip | apply aw_exit | apply aw_block | apply es_nil
    | (apply es_pure hT; (iterate 4 exact rfl)) | (apply es_skip; (iterate 3 exact rfl)) | (apply es_skip0; (iterate 2 exact rfl))
    | (apply es_i64 hT; (iterate 4 exact rfl); (iterate 2 (first | omega | (dsimp only; omega))))
    | (apply aw_treeD [89, 58] [46, 59] (.step 0 <| .step 1 <| .step 2 <| .step 3 <| .step 4 <| .step 5 <| .step 6 <| .step 7 <| .step 8 <| .step 9 <| .step 11 <| .step 10 <| .step 12 <| .step 13 <| .step 14 <| .step 15 <| .step 16 <| .step 18 <| .step 17 <| .step 19 <| .step 20 <| .step 21 <| .step 22 <| .nil) hmix; decide +kernel) | apply ep_nil | apply ep_alt | (apply ep_step; exact rfl)
    | (apply es_callQ (hs := (hLen _ m1 m2)); (iterate 7 exact rfl))
    | (apply es_callA (hs := (hS1 _ m1 m2)); (iterate 7 exact rfl); (rintro _ _ ⟨AS, cS, rfl, rfl, hfS⟩; refine ⟨[_], rfl, ?_⟩))
    | (apply es_callA (hs := (rS1 _ (.tail _ m3) (.tail _ m4))); (iterate 7 exact rfl); (rintro _ _ ⟨AR, cR, rfl, rfl, hfR⟩; refine ⟨[_], rfl, ?_⟩))
    | (apply es_callQ (hs := (same_two W _ _ _ _ _ s1 hfS hfR mem1 mem0 (by omega))); (iterate 7 exact rfl))
    | (apply es_callA (hs := (hS2 _ (.tail _ (.tail _ m1)) (.tail _ (.tail _ m2)))); (iterate 7 exact rfl); (rintro _ _ ⟨AT, cT, rfl, rfl, hfT⟩; refine ⟨[_], rfl, ?_⟩))
    | (apply es_callA (hs := (rS2 _ (.tail _ (.tail _ (.tail _ m3))) (.tail _ (.tail _ (.tail _ m4))))); (iterate 7 exact rfl); (rintro _ _ ⟨AU, cU, rfl, rfl, hfU⟩; refine ⟨[_], rfl, ?_⟩))
    | (apply es_callQ (hs := (same_two W _ _ _ _ _ s2 hfT hfU mem1 mem0 (by omega))); (iterate 7 exact rfl))
    | (apply es_load; (iterate 5 exact rfl); first | (apply ld_blk hT; exact rfl; exact rfl; (repeat (first | exact List.mem_cons_self | exact m1 | exact m3 | apply List.mem_cons_of_mem | apply List.mem_append_right)); exact rfl; exact rfl) | (apply ld_all hT; exact rfl; exact rfl; (repeat (first | exact List.mem_cons_self | exact m1 | exact m3 | apply List.mem_cons_of_mem | apply List.mem_append_right)); exact rfl))
    | (apply es_box; (iterate 5 exact rfl); intro _) | (apply es_alloc hT; (iterate 5 exact rfl); intro _)
    | (apply aw_condT; (iterate 2 exact rfl)) | (apply aw_condF; (iterate 2 exact rfl))
    | (apply es_case; exact rfl; all_goals intro hb; all_goals (fail_if_success (change true = true at hb)); all_goals (fail_if_success (change false = false at hb)); all_goals (try dsimp only at hb); all_goals (try simp only [hb]); all_goals (first | replace hb := of_decide_eq_true hb | replace hb := of_decide_eq_false hb | replace hb := bne_t hb | replace hb := bne_f hb | replace hb := eq_of_beq hb | replace hb := ne_of_beq_false hb | skip); all_goals (try (exfalso; omega)))
    | (apply aw_cond; exact rfl; all_goals intro hb; all_goals (try dsimp only at hb); all_goals (try simp only [hb]); all_goals (first | replace hb := of_decide_eq_true hb | replace hb := of_decide_eq_false hb | replace hb := bne_t hb | replace hb := bne_f hb | replace hb := eq_of_beq hb | replace hb := ne_of_beq_false hb | skip); all_goals (try (exfalso; omega))))
  all_goals first
    | (exfalso; omega)
    | (apply ret1; exact rfl; exact ⟨rfl, by (repeat (first | exact dt_end | apply dt_skip))⟩)
    | skip
end Go.Proofs.YtjcnaeengplcbaaGreat

set_option linter.unusedSimpArgs false
set_option linter.unusedVariables false
namespace Go.Proofs.YtjcnaeengplcbaaGreat
open Go Go.Sl
attribute [local irreducible] AW ES EP Ld RetQ
set_option maxRecDepth 100000

def badP (a b : Order) : Prop := a.side = 1 ∧ b.side = 2 ∧ b.price ≤ a.price
theorem uncr_all {l : List Order} (h : ∀ (i j : Nat) a b, l[i]? = some a → l[j]? = some b → ¬ badP a b) : decide (uncrB l) = true := by
  rw [decide_eq_true_eq]
  intro a ha b hb e1 e2
  obtain ⟨i, hi⟩ := List.getElem?_of_mem ha
  obtain ⟨j, hj⟩ := List.getElem?_of_mem hb
  have := h i j a b hi hj
  unfold badP at this
  omega
theorem uncr_no {l : List Order} {a b : Order} (ha : a ∈ l) (hb : b ∈ l) (h : badP a b) : decide (uncrB l) = false := by
  rw [decide_eq_false]
  intro hu
  obtain ⟨e1, e2, e3⟩ := h
  have := hu a ha b hb e1 e2
  omega
set_option maxHeartbeats 1000000 in
theorem ref23_Crossed (W : World) (q : Nat) (A : Option Addr) (c : Nat) (l : List Order) (hb : l.length ≤ 1000000) :
    QSpec Tryz.prog W 28 [.pointer (some ⟨q, 0, none⟩)] [.blk q 97 [.slice A l.length c], .own A l.length c 82 6 (l.flatMap Order.enc)] (.bool (!decide (uncrB l))) := by
  refine QSpec.ofD (fun h' hs => ?_)
  have m0 := hs _ mem0
  have m1 := hs _ mem1
  have hrd : Reads W h' A l.length 6 (l.flatMap Order.enc) := Reads.enc Order.enc_len Order.enc_one m1 rfl
  refine spec_body Tryz.func28 rfl rfl Tryz.results28 Tryz.ntmps28 rfl rfl ?_
  refine aw_reads hrd rfl (fun hA => ?_)
  repeat' (first
    | apply aw_seq | apply aw_region | apply aw_ret | apply aw_skip | apply aw_exit | apply aw_block | apply es_nil
    | (apply es_pure hT; (iterate 4 exact rfl)) | (apply es_skip; (iterate 3 exact rfl)) | (apply es_skip0; (iterate 2 exact rfl))
    | (apply es_i64 hT; (iterate 4 exact rfl); (iterate 2 (first | omega | (dsimp only; omega))))
    | (apply aw_draw [] [] hmix; decide +kernel)
    | (apply es_load; (iterate 5 exact rfl); first | (apply ld_blk hT; exact rfl; exact rfl; (repeat (first | exact List.mem_cons_self | exact m0 | apply List.mem_cons_of_mem | apply List.mem_append_right)); exact rfl; exact rfl) | (apply ld_all hT; exact rfl; exact rfl; (repeat (first | exact List.mem_cons_self | exact m0 | apply List.mem_cons_of_mem | apply List.mem_append_right)); exact rfl))
    | (apply es_box; (iterate 5 exact rfl); intro _) | (apply es_alloc hT; (iterate 5 exact rfl); intro _)
    | (apply aw_condT; (iterate 2 exact rfl)) | (apply aw_condF; (iterate 2 exact rfl))
    | (apply es_case; exact rfl; all_goals intro hb; all_goals (fail_if_success (change true = true at hb)); all_goals (fail_if_success (change false = false at hb)); all_goals (try dsimp only at hb); all_goals (try simp only [hb]); all_goals (first | replace hb := of_decide_eq_true hb | replace hb := of_decide_eq_false hb | replace hb := bne_t hb | replace hb := bne_f hb | replace hb := eq_of_beq hb | replace hb := ne_of_beq_false hb | skip); all_goals (try (exfalso; omega)))
    | (apply aw_cond; exact rfl; all_goals intro hb; all_goals (try dsimp only at hb); all_goals (try simp only [hb]); all_goals (first | replace hb := of_decide_eq_true hb | replace hb := of_decide_eq_false hb | replace hb := bne_t hb | replace hb := bne_f hb | replace hb := eq_of_beq hb | replace hb := ne_of_beq_false hb | skip); all_goals (try (exfalso; omega))))
  refine aw_loopD (α := Nat) (E := fun k => [(0, .pointer (some ⟨q, 0, none⟩)), (3, .int .i64 k)]) (H := fun _ => h') (μ := fun k => l.length - k)
    (S := fun k => k ≤ l.length ∧ ∀ (i j : Nat) a b, i < k → l[i]? = some a → l[j]? = some b → ¬ badP a b) 0 ⟨Nat.zero_le _, fun i j a b hi => absurd hi (Nat.not_lt_zero _)⟩ ⟨rfl, rfl, trivial⟩ (by (repeat (first | exact dt_end | (apply dt_cons; · (repeat (first | exact sel0 | apply selS | apply selApp))) | apply dt_skip | apply dt_both))) ?_
  rintro k ⟨hk, hgd⟩
  by_cases hlt : k < l.length
  · obtain ⟨x, hx⟩ : ∃ x, l[k]? = some x := ⟨l[k]'(by omega), List.getElem?_eq_getElem (by omega)⟩
    have hx2 : l[(k : Int).toNat]? = some x := by simpa using hx
    have hA' := hA (by omega)
    have hd1 : decide ((k : Int) < (l.length : Int)) = true := by simp; omega
    repeat' (first
      | apply aw_seq | apply aw_region | apply aw_ret | apply aw_skip | apply aw_exit | apply aw_block | apply es_nil
      | (apply es_pure hT; (iterate 4 exact rfl)) | (apply es_skip; (iterate 3 exact rfl)) | (apply es_skip0; (iterate 2 exact rfl))
      | (apply es_i64 hT; (iterate 4 exact rfl); (iterate 2 (first | omega | (dsimp only; omega))))
      | (apply aw_draw [] [] hmix; decide +kernel)
      | (apply es_load; (iterate 5 exact rfl); first | (apply ld_blk hT; exact rfl; exact rfl; (repeat (first | exact List.mem_cons_self | exact m0 | apply List.mem_cons_of_mem | apply List.mem_append_right)); exact rfl; exact rfl) | (apply ld_all hT; exact rfl; exact rfl; (repeat (first | exact List.mem_cons_self | exact m0 | apply List.mem_cons_of_mem | apply List.mem_append_right)); exact rfl))
      | (apply es_box; (iterate 5 exact rfl); intro _) | (apply es_alloc hT; (iterate 5 exact rfl); intro _)
      | (apply aw_condT; (iterate 2 exact rfl)) | (apply aw_condF; (iterate 2 exact rfl))
      | (apply es_case; exact rfl; all_goals intro hb; all_goals (fail_if_success (change true = true at hb)); all_goals (fail_if_success (change false = false at hb)); all_goals (try dsimp only at hb); all_goals (try simp only [hb]); all_goals (first | replace hb := of_decide_eq_true hb | replace hb := of_decide_eq_false hb | replace hb := bne_t hb | replace hb := bne_f hb | replace hb := eq_of_beq hb | replace hb := ne_of_beq_false hb | skip); all_goals (try (exfalso; omega)))
      | (apply aw_cond; exact rfl; all_goals intro hb; all_goals (try dsimp only at hb); all_goals (try simp only [hb]); all_goals (first | replace hb := of_decide_eq_true hb | replace hb := of_decide_eq_false hb | replace hb := bne_t hb | replace hb := bne_f hb | replace hb := eq_of_beq hb | replace hb := ne_of_beq_false hb | skip); all_goals (try (exfalso; omega))))
    all_goals try (exfalso; omega)
    refine aw_loopD (α := Nat) (E := fun j => [(0, .pointer (some ⟨q, 0, none⟩)), (3, .int .i64 k), (4, .int .i64 j)]) (H := fun _ => h') (μ := fun j => l.length - j)
      (S := fun j => j ≤ l.length ∧ ∀ (i : Nat) b, i < j → l[i]? = some b → ¬ badP x b) 0 ⟨Nat.zero_le _, fun i b hi => absurd hi (Nat.not_lt_zero _)⟩ ⟨rfl, rfl, rfl, trivial⟩ (by (repeat (first | exact dt_end | (apply dt_cons; · (repeat (first | exact sel0 | apply selS | apply selApp))) | apply dt_skip | apply dt_both))) ?_
    rintro j ⟨hj, hgj⟩
    by_cases hlj : j < l.length
    · obtain ⟨y, hy⟩ : ∃ y, l[j]? = some y := ⟨l[j]'(by omega), List.getElem?_eq_getElem (by omega)⟩
      have hy2 : l[(j : Int).toNat]? = some y := by simpa using hy
      have hd2 : decide ((j : Int) < (l.length : Int)) = true := by simp; omega
      have hTk := (ref2_Takes W 1 x.price y.price).cast (u := .bool (decide (y.price ≤ x.price))) (by by_cases h : y.price ≤ x.price <;> simp [isB, betterB, h] <;> omega)
      by_cases hbad : badP x y
      · have hv : decide (uncrB l) = false := uncr_no (List.mem_of_getElem? hx) (List.mem_of_getElem? hy) hbad
        obtain ⟨e1, e2, e3⟩ := hbad
        rw [decide_eq_true e3] at hTk
        repeat' (first
          | apply aw_seq | apply aw_region | apply aw_ret | apply aw_skip | apply aw_exit | apply aw_block | apply es_nil
          | (apply es_pure hT; (iterate 4 exact rfl)) | (apply es_skip; (iterate 3 exact rfl)) | (apply es_skip0; (iterate 2 exact rfl))
          | (apply es_i64 hT; (iterate 4 exact rfl); (iterate 2 (first | omega | (dsimp only; omega))))
          | (apply aw_draw [88] [] hmix; decide +kernel)
          | (apply es_idx hT; (iterate 8 exact rfl); (iterate 2 omega); exact hA')
          | (apply es_load; (iterate 5 exact rfl); first | exact ld_fld hT rfl rfl hrd Order.enc_len (adr_add _ _ _) hx2 (by decide) rfl | exact ld_fld hT rfl rfl hrd Order.enc_len (adr_add _ _ _) hy2 (by decide) rfl)
          | (apply es_callQ (hs := (hTk.mono (by simp))); (iterate 7 exact rfl))
          | (apply es_load; (iterate 5 exact rfl); first | (apply ld_blk hT; exact rfl; exact rfl; (repeat (first | exact List.mem_cons_self | exact m0 | apply List.mem_cons_of_mem | apply List.mem_append_right)); exact rfl; exact rfl) | (apply ld_all hT; exact rfl; exact rfl; (repeat (first | exact List.mem_cons_self | exact m0 | apply List.mem_cons_of_mem | apply List.mem_append_right)); exact rfl))
          | (apply es_box; (iterate 5 exact rfl); intro _) | (apply es_alloc hT; (iterate 5 exact rfl); intro _)
          | (apply aw_condT; (iterate 2 exact rfl)) | (apply aw_condF; (iterate 2 exact rfl))
          | (apply es_case; exact rfl; all_goals intro hb; all_goals (fail_if_success (change true = true at hb)); all_goals (fail_if_success (change false = false at hb)); all_goals (try dsimp only at hb); all_goals (try simp only [hb]); all_goals (first | replace hb := of_decide_eq_true hb | replace hb := of_decide_eq_false hb | replace hb := bne_t hb | replace hb := bne_f hb | replace hb := eq_of_beq hb | replace hb := ne_of_beq_false hb | skip); all_goals (try (exfalso; omega)))
          | (apply aw_cond; exact rfl; all_goals intro hb; all_goals (try dsimp only at hb); all_goals (try simp only [hb]); all_goals (first | replace hb := of_decide_eq_true hb | replace hb := of_decide_eq_false hb | replace hb := bne_t hb | replace hb := bne_f hb | replace hb := eq_of_beq hb | replace hb := ne_of_beq_false hb | skip); all_goals (try (exfalso; omega))))
        all_goals first
          | (exfalso; omega)
          | (apply ret1; exact rfl; exact ⟨by rw [hv]; rfl, by (repeat (first | exact dt_end | (apply dt_cons; · (repeat (first | exact sel0 | apply selS | apply selApp))) | apply dt_skip | apply dt_both))⟩)
          | skip
      · have hgj' : ∀ (i : Nat) b, i < j + 1 → l[i]? = some b → ¬ badP x b := fun i b hi hb => by
          by_cases e : i = j
          · rw [e, hy] at hb; cases hb; exact hbad
          · exact hgj i b (by omega) hb
        repeat' (first
          | apply aw_seq | apply aw_region | apply aw_ret | apply aw_skip | apply aw_exit | apply aw_block | apply es_nil
          | (apply es_pure hT; (iterate 4 exact rfl)) | (apply es_skip; (iterate 3 exact rfl)) | (apply es_skip0; (iterate 2 exact rfl))
          | (apply es_i64 hT; (iterate 4 exact rfl); (iterate 2 (first | omega | (dsimp only; omega))))
          | (apply aw_draw [88] [] hmix; decide +kernel)
          | (apply es_idx hT; (iterate 8 exact rfl); (iterate 2 omega); exact hA')
          | (apply es_load; (iterate 5 exact rfl); first | exact ld_fld hT rfl rfl hrd Order.enc_len (adr_add _ _ _) hx2 (by decide) rfl | exact ld_fld hT rfl rfl hrd Order.enc_len (adr_add _ _ _) hy2 (by decide) rfl)
          | (apply es_callQ (hs := (hTk.mono (by simp))); (iterate 7 exact rfl))
          | (apply es_load; (iterate 5 exact rfl); first | (apply ld_blk hT; exact rfl; exact rfl; (repeat (first | exact List.mem_cons_self | exact m0 | apply List.mem_cons_of_mem | apply List.mem_append_right)); exact rfl; exact rfl) | (apply ld_all hT; exact rfl; exact rfl; (repeat (first | exact List.mem_cons_self | exact m0 | apply List.mem_cons_of_mem | apply List.mem_append_right)); exact rfl))
          | (apply es_box; (iterate 5 exact rfl); intro _) | (apply es_alloc hT; (iterate 5 exact rfl); intro _)
          | (apply aw_condT; (iterate 2 exact rfl)) | (apply aw_condF; (iterate 2 exact rfl))
          | (apply es_case; exact rfl; all_goals intro hb; all_goals (fail_if_success (change true = true at hb)); all_goals (fail_if_success (change false = false at hb)); all_goals (try dsimp only at hb); all_goals (try simp only [hb]); all_goals (first | replace hb := of_decide_eq_true hb | replace hb := of_decide_eq_false hb | replace hb := bne_t hb | replace hb := bne_f hb | replace hb := eq_of_beq hb | replace hb := ne_of_beq_false hb | skip); all_goals (try (exfalso; omega)))
          | (apply aw_cond; exact rfl; all_goals intro hb; all_goals (try dsimp only at hb); all_goals (try simp only [hb]); all_goals (first | replace hb := of_decide_eq_true hb | replace hb := of_decide_eq_false hb | replace hb := bne_t hb | replace hb := bne_f hb | replace hb := eq_of_beq hb | replace hb := ne_of_beq_false hb | skip); all_goals (try (exfalso; omega))))
        all_goals first
          | (exfalso; omega)
          | (exfalso; apply hbad; unfold badP; refine ⟨?_, ?_, ?_⟩ <;> (first | omega | simp_all); done)
          | exact loopq_end (j + 1) (by (try dsimp only); omega) ⟨by (try dsimp only); omega, hgj'⟩ ⟨rfl, rfl, rfl, trivial⟩ (by (repeat (first | exact dt_end | (apply dt_cons; · (repeat (first | exact sel0 | apply selS | apply selApp))) | apply dt_skip | apply dt_both)))
          | skip
    · obtain rfl : j = l.length := by omega
      have hd2 : decide ((l.length : Int) < (l.length : Int)) = false := by simp
      repeat' (first
        | apply aw_seq | apply aw_region | apply aw_ret | apply aw_skip | apply aw_exit | apply aw_block | apply es_nil
        | (apply es_pure hT; (iterate 4 exact rfl)) | (apply es_skip; (iterate 3 exact rfl)) | (apply es_skip0; (iterate 2 exact rfl))
        | (apply es_i64 hT; (iterate 4 exact rfl); (iterate 2 (first | omega | (dsimp only; omega))))
        | (apply aw_draw [] [] hmix; decide +kernel)
        | (apply es_load; (iterate 5 exact rfl); first | (apply ld_blk hT; exact rfl; exact rfl; (repeat (first | exact List.mem_cons_self | exact m0 | apply List.mem_cons_of_mem | apply List.mem_append_right)); exact rfl; exact rfl) | (apply ld_all hT; exact rfl; exact rfl; (repeat (first | exact List.mem_cons_self | exact m0 | apply List.mem_cons_of_mem | apply List.mem_append_right)); exact rfl))
        | (apply es_box; (iterate 5 exact rfl); intro _) | (apply es_alloc hT; (iterate 5 exact rfl); intro _)
        | (apply aw_condT; (iterate 2 exact rfl)) | (apply aw_condF; (iterate 2 exact rfl))
        | (apply es_case; exact rfl; all_goals intro hb; all_goals (fail_if_success (change true = true at hb)); all_goals (fail_if_success (change false = false at hb)); all_goals (try dsimp only at hb); all_goals (try simp only [hb]); all_goals (first | replace hb := of_decide_eq_true hb | replace hb := of_decide_eq_false hb | replace hb := bne_t hb | replace hb := bne_f hb | replace hb := eq_of_beq hb | replace hb := ne_of_beq_false hb | skip); all_goals (try (exfalso; omega)))
        | (apply aw_cond; exact rfl; all_goals intro hb; all_goals (try dsimp only at hb); all_goals (try simp only [hb]); all_goals (first | replace hb := of_decide_eq_true hb | replace hb := of_decide_eq_false hb | replace hb := bne_t hb | replace hb := bne_f hb | replace hb := eq_of_beq hb | replace hb := ne_of_beq_false hb | skip); all_goals (try (exfalso; omega))))
      all_goals first
        | (exfalso; omega)
        | exact loopq_end (k + 1) (by (try dsimp only); omega) ⟨by (try dsimp only); omega, fun i j a b hi ha hb => by
            by_cases e : i = k
            · rw [e, hx] at ha; cases ha; exact hgj j b (List.getElem?_eq_some_iff.1 hb).1 hb
            · exact hgd i j a b (by (try dsimp only at hi); omega) ha hb⟩ ⟨rfl, rfl, trivial⟩ (by (repeat (first | exact dt_end | (apply dt_cons; · (repeat (first | exact sel0 | apply selS | apply selApp))) | apply dt_skip | apply dt_both)))
        | skip
  · obtain rfl : k = l.length := by omega
    have hd1 : decide ((l.length : Int) < (l.length : Int)) = false := by simp
    have hv : decide (uncrB l) = true := uncr_all (fun i j a b ha hb => hgd i j a b (List.getElem?_eq_some_iff.1 ha).1 ha hb)
    repeat' (first
      | apply aw_seq | apply aw_region | apply aw_ret | apply aw_skip | apply aw_exit | apply aw_block | apply es_nil
      | (apply es_pure hT; (iterate 4 exact rfl)) | (apply es_skip; (iterate 3 exact rfl)) | (apply es_skip0; (iterate 2 exact rfl))
      | (apply es_i64 hT; (iterate 4 exact rfl); (iterate 2 (first | omega | (dsimp only; omega))))
      | (apply aw_draw [] [] hmix; decide +kernel)
      | (apply es_load; (iterate 5 exact rfl); first | (apply ld_blk hT; exact rfl; exact rfl; (repeat (first | exact List.mem_cons_self | exact m0 | apply List.mem_cons_of_mem | apply List.mem_append_right)); exact rfl; exact rfl) | (apply ld_all hT; exact rfl; exact rfl; (repeat (first | exact List.mem_cons_self | exact m0 | apply List.mem_cons_of_mem | apply List.mem_append_right)); exact rfl))
      | (apply es_box; (iterate 5 exact rfl); intro _) | (apply es_alloc hT; (iterate 5 exact rfl); intro _)
      | (apply aw_condT; (iterate 2 exact rfl)) | (apply aw_condF; (iterate 2 exact rfl))
      | (apply es_case; exact rfl; all_goals intro hb; all_goals (fail_if_success (change true = true at hb)); all_goals (fail_if_success (change false = false at hb)); all_goals (try dsimp only at hb); all_goals (try simp only [hb]); all_goals (first | replace hb := of_decide_eq_true hb | replace hb := of_decide_eq_false hb | replace hb := bne_t hb | replace hb := bne_f hb | replace hb := eq_of_beq hb | replace hb := ne_of_beq_false hb | skip); all_goals (try (exfalso; omega)))
      | (apply aw_cond; exact rfl; all_goals intro hb; all_goals (try dsimp only at hb); all_goals (try simp only [hb]); all_goals (first | replace hb := of_decide_eq_true hb | replace hb := of_decide_eq_false hb | replace hb := bne_t hb | replace hb := bne_f hb | replace hb := eq_of_beq hb | replace hb := ne_of_beq_false hb | skip); all_goals (try (exfalso; omega))))
    all_goals first
      | (exfalso; omega)
      | (apply ret1; exact rfl; exact ⟨by rw [hv]; rfl, by (repeat (first | exact dt_end | (apply dt_cons; · (repeat (first | exact sel0 | apply selS | apply selApp))) | apply dt_skip | apply dt_both))⟩)
      | skip
set_option maxHeartbeats 1000000 in
theorem law_Books (W : World) (A0 : Option Addr) (c0 : Nat) (ls : List Order) (hr0 : Reads W [] A0 ls.length 6 (ls.flatMap Order.enc)) :
    FSpec Tryz.prog W 4 [.slice A0 ls.length c0] [] (fun v _ => v = .bool true) := by
  refine spec_body Tryz.func4 rfl rfl Tryz.results4 Tryz.ntmps4 rfl rfl ?_
  by_cases hg : ls.length ≤ 60
  rotate_left
  · repeat' (first
      | apply aw_seq | apply aw_region | apply aw_ret | apply aw_skip | apply aw_exit | apply aw_block | apply es_nil
      | (apply es_pure hT; (iterate 4 exact rfl)) | (apply es_skip; (iterate 3 exact rfl)) | (apply es_skip0; (iterate 2 exact rfl))
      | (apply es_i64 hT; (iterate 4 exact rfl); (iterate 2 (first | omega | (dsimp only; omega))))
      | (apply aw_draw [] [] hmix; decide +kernel)
      | (apply es_load; (iterate 5 exact rfl); first | (apply ld_blk hT; exact rfl; exact rfl; (repeat (first | exact List.mem_cons_self | apply List.mem_cons_of_mem | apply List.mem_append_right)); exact rfl; exact rfl) | (apply ld_all hT; exact rfl; exact rfl; (repeat (first | exact List.mem_cons_self | apply List.mem_cons_of_mem | apply List.mem_append_right)); exact rfl))
      | (apply es_box; (iterate 5 exact rfl); intro _) | (apply es_alloc hT; (iterate 5 exact rfl); intro _)
      | (apply aw_condT; (iterate 2 exact rfl)) | (apply aw_condF; (iterate 2 exact rfl))
      | (apply es_case; exact rfl; all_goals intro hb; all_goals (fail_if_success (change true = true at hb)); all_goals (fail_if_success (change false = false at hb)); all_goals (try dsimp only at hb); all_goals (try simp only [hb]); all_goals (first | replace hb := of_decide_eq_true hb | replace hb := of_decide_eq_false hb | replace hb := bne_t hb | replace hb := bne_f hb | replace hb := eq_of_beq hb | replace hb := ne_of_beq_false hb | skip); all_goals (try (exfalso; omega)))
      | (apply aw_cond; exact rfl; all_goals intro hb; all_goals (try dsimp only at hb); all_goals (try simp only [hb]); all_goals (first | replace hb := of_decide_eq_true hb | replace hb := of_decide_eq_false hb | replace hb := bne_t hb | replace hb := bne_f hb | replace hb := eq_of_beq hb | replace hb := ne_of_beq_false hb | skip); all_goals (try (exfalso; omega))))
    all_goals first
      | (exfalso; omega)
      | (apply ret1; exact rfl; exact rfl)
      | skip
  · have hB := bookOf_B ls
    have hboth := both27 W [] A0 c0 ls hr0 (by omega)
    have hk := known27 W
    generalize bookOf ls = l at *
    have hU := fun p A c k m1 m2 => ((audit_Uncrossed W p A c l hB).cast (u := .bool (decide (uncrB l))) (by rw [uncr_heads hB])).mono (h' := k) (mem2P m1 m2)
    have hC := fun q A c k m1 m2 => (ref23_Crossed W q A c l hB.le).mono (h' := k) (mem2P m1 m2)
    have hS := fun k p q A A' c c' n1 n2 n3 n4 => same27 W k p q A A' c c' l hB n1 n2 n3 n4
    generalize decide (uncrB l) = v at *
    cases v
    · repeat' (first
        | apply aw_seq | apply aw_region | apply aw_ret | apply aw_skip | apply aw_exit | apply aw_block | apply es_nil
        | (apply es_pure hT; (iterate 4 exact rfl)) | (apply es_skip; (iterate 3 exact rfl)) | (apply es_skip0; (iterate 2 exact rfl))
        | (apply es_i64 hT; (iterate 4 exact rfl); (iterate 2 (first | omega | (dsimp only; omega))))
        | (apply aw_draw [] [] hmix; decide +kernel)
        | (apply es_call (hs := hboth); (iterate 7 exact rfl); rintro _ _ ⟨p, A, c, q, A', c', rfl, rfl⟩)
        | (apply es_callQ (hs := (hU p A c _ (by (repeat (first | exact List.mem_cons_self | apply List.mem_cons_of_mem | apply List.mem_append_right))) (by (repeat (first | exact List.mem_cons_self | apply List.mem_cons_of_mem | apply List.mem_append_right))))); (iterate 7 exact rfl))
        | (apply es_callQ (hs := (hC q A' c' _ (by (repeat (first | exact List.mem_cons_self | apply List.mem_cons_of_mem | apply List.mem_append_right))) (by (repeat (first | exact List.mem_cons_self | apply List.mem_cons_of_mem | apply List.mem_append_right))))); (iterate 7 exact rfl))
        | (apply es_callQ (hs := (hS _ p q A A' c c' (by (repeat (first | exact List.mem_cons_self | apply List.mem_cons_of_mem | apply List.mem_append_right))) (by (repeat (first | exact List.mem_cons_self | apply List.mem_cons_of_mem | apply List.mem_append_right))) (by (repeat (first | exact List.mem_cons_self | apply List.mem_cons_of_mem | apply List.mem_append_right))) (by (repeat (first | exact List.mem_cons_self | apply List.mem_cons_of_mem | apply List.mem_append_right))))); (iterate 7 exact rfl))
        | (apply es_callQ (hs := (hk.mono (by simp))); (iterate 7 exact rfl))
        | (apply es_load; (iterate 5 exact rfl); first | (apply ld_blk hT; exact rfl; exact rfl; (repeat (first | exact List.mem_cons_self | apply List.mem_cons_of_mem | apply List.mem_append_right)); exact rfl; exact rfl) | (apply ld_all hT; exact rfl; exact rfl; (repeat (first | exact List.mem_cons_self | apply List.mem_cons_of_mem | apply List.mem_append_right)); exact rfl))
        | (apply es_box; (iterate 5 exact rfl); intro _) | (apply es_alloc hT; (iterate 5 exact rfl); intro _)
        | (apply aw_condT; (iterate 2 exact rfl)) | (apply aw_condF; (iterate 2 exact rfl))
        | (apply es_case; exact rfl; all_goals intro hb; all_goals (fail_if_success (change true = true at hb)); all_goals (fail_if_success (change false = false at hb)); all_goals (try dsimp only at hb); all_goals (try simp only [hb]); all_goals (first | replace hb := of_decide_eq_true hb | replace hb := of_decide_eq_false hb | replace hb := bne_t hb | replace hb := bne_f hb | replace hb := eq_of_beq hb | replace hb := ne_of_beq_false hb | skip); all_goals (try (exfalso; omega)))
        | (apply aw_cond; exact rfl; all_goals intro hb; all_goals (try dsimp only at hb); all_goals (try simp only [hb]); all_goals (first | replace hb := of_decide_eq_true hb | replace hb := of_decide_eq_false hb | replace hb := bne_t hb | replace hb := bne_f hb | replace hb := eq_of_beq hb | replace hb := ne_of_beq_false hb | skip); all_goals (try (exfalso; omega))))
      all_goals first
        | (exfalso; omega)
        | (apply ret1; exact rfl; exact rfl)
        | skip
    · repeat' (first
        | apply aw_seq | apply aw_region | apply aw_ret | apply aw_skip | apply aw_exit | apply aw_block | apply es_nil
        | (apply es_pure hT; (iterate 4 exact rfl)) | (apply es_skip; (iterate 3 exact rfl)) | (apply es_skip0; (iterate 2 exact rfl))
        | (apply es_i64 hT; (iterate 4 exact rfl); (iterate 2 (first | omega | (dsimp only; omega))))
        | (apply aw_draw [] [] hmix; decide +kernel)
        | (apply es_call (hs := hboth); (iterate 7 exact rfl); rintro _ _ ⟨p, A, c, q, A', c', rfl, rfl⟩)
        | (apply es_callQ (hs := (hU p A c _ (by (repeat (first | exact List.mem_cons_self | apply List.mem_cons_of_mem | apply List.mem_append_right))) (by (repeat (first | exact List.mem_cons_self | apply List.mem_cons_of_mem | apply List.mem_append_right))))); (iterate 7 exact rfl))
        | (apply es_callQ (hs := (hC q A' c' _ (by (repeat (first | exact List.mem_cons_self | apply List.mem_cons_of_mem | apply List.mem_append_right))) (by (repeat (first | exact List.mem_cons_self | apply List.mem_cons_of_mem | apply List.mem_append_right))))); (iterate 7 exact rfl))
        | (apply es_callQ (hs := (hS _ p q A A' c c' (by (repeat (first | exact List.mem_cons_self | apply List.mem_cons_of_mem | apply List.mem_append_right))) (by (repeat (first | exact List.mem_cons_self | apply List.mem_cons_of_mem | apply List.mem_append_right))) (by (repeat (first | exact List.mem_cons_self | apply List.mem_cons_of_mem | apply List.mem_append_right))) (by (repeat (first | exact List.mem_cons_self | apply List.mem_cons_of_mem | apply List.mem_append_right))))); (iterate 7 exact rfl))
        | (apply es_callQ (hs := (hk.mono (by simp))); (iterate 7 exact rfl))
        | (apply es_load; (iterate 5 exact rfl); first | (apply ld_blk hT; exact rfl; exact rfl; (repeat (first | exact List.mem_cons_self | apply List.mem_cons_of_mem | apply List.mem_append_right)); exact rfl; exact rfl) | (apply ld_all hT; exact rfl; exact rfl; (repeat (first | exact List.mem_cons_self | apply List.mem_cons_of_mem | apply List.mem_append_right)); exact rfl))
        | (apply es_box; (iterate 5 exact rfl); intro _) | (apply es_alloc hT; (iterate 5 exact rfl); intro _)
        | (apply aw_condT; (iterate 2 exact rfl)) | (apply aw_condF; (iterate 2 exact rfl))
        | (apply es_case; exact rfl; all_goals intro hb; all_goals (fail_if_success (change true = true at hb)); all_goals (fail_if_success (change false = false at hb)); all_goals (try dsimp only at hb); all_goals (try simp only [hb]); all_goals (first | replace hb := of_decide_eq_true hb | replace hb := of_decide_eq_false hb | replace hb := bne_t hb | replace hb := bne_f hb | replace hb := eq_of_beq hb | replace hb := ne_of_beq_false hb | skip); all_goals (try (exfalso; omega)))
        | (apply aw_cond; exact rfl; all_goals intro hb; all_goals (try dsimp only at hb); all_goals (try simp only [hb]); all_goals (first | replace hb := of_decide_eq_true hb | replace hb := of_decide_eq_false hb | replace hb := bne_t hb | replace hb := bne_f hb | replace hb := eq_of_beq hb | replace hb := ne_of_beq_false hb | skip); all_goals (try (exfalso; omega))))
      all_goals first
        | (exfalso; omega)
        | (apply ret1; exact rfl; exact rfl)
        | skip
end Go.Proofs.YtjcnaeengplcbaaGreat

set_option linter.unusedSimpArgs false
set_option linter.unusedVariables false
namespace Go.Proofs.YtjcnaeengplcbaaGreat
namespace auditBooks
open Go Go.Sl Go.ChangeShapes Go.WideShapes Go.ChangeAt Go.RowKit
theorem own : ownKnob Tryz.prog.godebug = none := by kernel_rfl
theorem laidOut : laidOutB Tryz.prog = true := by kernel_rfl
set_option maxRecDepth 100000 in
theorem lifted (os : Os) (started : os.Started) (H : Type) (enc : TypeId × Value → H) :
    ReturnsInHanded {} Tryz.checked os 4 .any (Rows.auditBooksSpec.pre6 enc Tryz.prog Tryz.f4 Rows.auditBooksRow.domain false) (Rows.auditBooksSpec.post enc Tryz.prog Tryz.f4 false true false false) := by
  refine returnsInHanded_of_change (C := Tryz.checked) own started (by kernel_rfl) Tryz.func4
    (ChangeSpec.witness6 (enc := enc) (C := Tryz.checked) false ⟨#[], #[.slice none 0 0], []⟩ 8 (by kernel_rfl) (by kernel_rfl) (by kernel_rfl) (by kernel_rfl)) ?_
  intro W base args ds gs before hval0 hW hcnd _
  have hval : ∀ (j : Nat) t v, Tryz.f4.params[j]? = some t → args[j]? = some v → Value.okWide Tryz.prog W .any base t v := hval0
  have hW' := hW
  obtain ⟨p, q, hA0, hV, rfl, hfz, hnd⟩ := hW
  have hA : DataW.TrodAll enc Tryz.prog W 0 (fun _ => true) true Tryz.f4.params.toList args.toList ds p := hA0
  obtain ⟨rfl, rfl⟩ := trodVars_none hV
  simp only [List.append_nil] at hW'
  have hA1 := hA
  rw [Tryz.params4] at hA1 hval
  obtain ⟨v0, vs0, d0, ds0, p0, q0, hargs, rfl, rfl, h0, r0⟩ := trodAll_cons hA1
  obtain ⟨rfl, rfl, rfl⟩ := trodAll_nil r0
  obtain rfl : args = #[v0] := by cases args; simp_all
  obtain ⟨A0, c0, l0, rfl, hc0, ok0, hr0⟩ := open_rows (W := W) 8 Tryz.underlying36 (by kernel_rfl) (by kernel_rfl) decOrder (hval 0 36 v0 rfl rfl) h0
  refine (FSpec.row (law_Books W A0 c0 l0 hr0) (fun _ _ h => h)).mono fun e W' ⟨he, hb⟩ => ?_
  subst he
  exact ⟨_, rfl, law_post hW' hA laidOut (by kernel_rfl) rfl rfl Tryz.underlying4 rfl rfl rfl hb⟩
theorem named : Tryz.prog.funcNamed Rows.auditBooksRow.func = some 4 := by kernel_rfl
set_option maxRecDepth 100000 in
set_option maxHeartbeats 8000000 in
theorem closed : joinedFacts Tryz.prog 4 Tryz.f4 Rows.auditBooksSpec Rows.auditBooksRow = true := by
  unfold joinedFacts
  simp only [Bool.and_eq_true]
  repeat' apply And.intro
  all_goals decide +kernel
theorem inst : Tryz.f4.isInstance Tryz.prog Rows.auditBooksRow.origin Rows.auditBooksRow.targs := of_decide_eq_true (by kernel_rfl)
theorem over : Rows.auditBooksRow.holds Tryz.pinned (OpenSpec.ofChange Rows.auditBooksSpec) :=
  OpenClaim.holds_of_wide 4 Tryz.f4 rfl rfl rfl rfl rfl rfl rfl ⟨rfl, rfl, rfl, rfl, rfl⟩ rfl rfl rfl rfl rfl named Tryz.func4 closed
    inst (by unfold Func.isWrapper; first | (rw [if_pos (by decide +kernel)]; kernel_rfl) | (rw [if_neg (by decide +kernel)]; exact ⟨rfl, rfl⟩))
    (fun os started H enc _ => lifted os started H enc)
end auditBooks
/-- the statement -/
theorem auditBooks_holds : Rows.AuditBooksSaid := auditBooks.over
#print axioms auditBooks_holds
end Go.Proofs.YtjcnaeengplcbaaGreat


