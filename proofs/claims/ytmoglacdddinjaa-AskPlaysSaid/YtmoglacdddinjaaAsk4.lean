/- Contracts of package ask, last: Get, Look, Back, End. Conditions stand in each statement. -/
import Derived.Test.YtmoglacdddinjaaAsk3
set_option linter.unusedSimpArgs false
set_option linter.unusedVariables false
namespace Go.Proofs.Ytmoglacdddinjaa
open Go Go.Sl
attribute [local irreducible] AW ES EP Ld RetQ
set_option maxRecDepth 100000

def getA (id : Int) (l : List AskR) : Option AskR := if bsB (cA id) l then l[bsN (cA id) l]? else none
theorem getA_some {id : Int} {l : List AskR} (h : bsB (cA id) l = true) : ∃ x, l[bsN (cA id) l]? = some x ∧ x.id = id ∧ getA id l = some x := by
  unfold bsB at h
  split at h
  · rename_i x hx
    refine ⟨x, hx, ?_, ?_⟩
    · have : cA id x = 0 := by simpa using h
      unfold cA cmpI at this; split at this <;> (try split at this) <;> omega
    · unfold getA bsB; rw [hx]; simp only at h ⊢; rw [if_pos h]
  · cases h
theorem getA_none {id : Int} {l : List AskR} (h : bsB (cA id) l = false) : getA id l = none := by unfold getA; rw [h]; rfl
def setA (id : Int) (x : AskR) (l : List AskR) : List AskR := l.set (bsN (cA id) l) x

def lookE (id quote until_ : Int) (l : List AskR) : Int := match getA id l with
  | none => 4
  | some x => if x.state = 1 then (if quote < 1 ∨ until_ < 1 then 1 else 0) else 11
def lookA (id quote until_ : Int) (l : List AskR) : List AskR := match getA id l with
  | none => l
  | some x => if lookE id quote until_ l = 0 then setA id { x with state := 2, hit := quote, until_ := until_ } l else l
theorem ask_Look (W : World) (F : List Chunk) (p : Nat) (A : Option Addr) (c : Nat) (l : List AskR) (id quote until_ : Int) (hb : l.length ≤ 1000000) (hup : upA l) :
    FSpec Try.prog W 38 [.pointer (some ⟨p, 0, none⟩), .int .i64 id, .int .i64 quote, .int .i64 until_] (askTab p A c l F) (fun v h' => v = .int .i64 (lookE id quote until_ l) ∧ h' = askTab p A c (lookA id quote until_ l) F) := by
  refine FSpec.dropTo ?_
  refine spec_body Try.func38 rfl rfl Try.results38 Try.ntmps38 rfl rfl ?_
  refine aw_fact (h := askTab p A c l F) mem1 (fun hl hnc hcc hsome hnone hone => ?_)
  have hr : Reads W (askTab p A c l F) A l.length 10 (l.flatMap AskR.enc) := Reads.own mem1 hl hone
  have hof := (ask_of W p A c l id hb hup).mono (h' := askTab p A c l F) (by intro c hc; simp only [askTab, List.mem_cons, List.not_mem_nil, or_false] at hc ⊢; rcases hc with rfl | rfl <;> simp)
  unfold ofA at hof
  cases hB : bsB (cA id) l
  · rw [hB] at hof
    repeat' (first
      | apply aw_seq | apply aw_region | apply aw_ret | apply aw_skip | apply aw_exit | apply aw_block | apply es_nil
      | (apply es_pure hT; (iterate 4 exact rfl)) | (apply es_skip; (iterate 3 exact rfl)) | (apply es_skip0; (iterate 2 exact rfl))
      | (apply es_i64 hT; (iterate 4 exact rfl); (iterate 2 omega))
      | (apply aw_draw [] [] hmix; decide +kernel)
      | (apply es_callQ (hs := hof); (iterate 7 exact rfl))
      | (apply es_load; (iterate 5 exact rfl); first | exact ld_blk hT rfl rfl mem0 rfl rfl | exact ld_all hT rfl rfl mem0 rfl)
      | (apply es_load; (iterate 5 exact rfl); first | exact ld_blk hT rfl rfl mem1 rfl rfl | exact ld_all hT rfl rfl mem1 rfl)
      | (apply es_load; (iterate 5 exact rfl); first | exact ld_blk hT rfl rfl mem2 rfl rfl | exact ld_all hT rfl rfl mem2 rfl)
      | (apply es_box; (iterate 5 exact rfl); intro _) | (apply es_alloc hT; (iterate 5 exact rfl); intro _)
      | (apply aw_condT; (iterate 2 exact rfl)) | (apply aw_condF; (iterate 2 exact rfl))
      | (apply es_case; exact rfl; all_goals intro hb; all_goals (try simp only [hb]); all_goals (first | replace hb := of_decide_eq_true hb | replace hb := of_decide_eq_false hb | replace hb := bne_t hb | replace hb := bne_f hb | skip); all_goals (try (exfalso; omega)))
      | (apply aw_cond; exact rfl; all_goals intro hb; all_goals (try simp only [hb]); all_goals (first | replace hb := of_decide_eq_true hb | replace hb := of_decide_eq_false hb | replace hb := bne_t hb | replace hb := bne_f hb | skip); all_goals (try (exfalso; omega))))
    apply ret1; exact rfl
    exact ⟨_, dt_end, by simp [lookE, getA_none hB], by simp [lookA, getA_none hB]⟩
  · obtain ⟨x, hx, _, hg⟩ := getA_some hB
    rw [hB] at hof
    have hlt := (List.getElem?_eq_some_iff.1 hx).1
    by_cases hs : x.state = 1
    · have hs1 : (x.state != 1) = false := by simpa using hs
      by_cases hq : quote < 1 ∨ until_ < 1
      · have hE : lookE id quote until_ l = 1 := by simp [lookE, hg, hs, hq]
        repeat' (first
          | apply aw_seq | apply aw_region | apply aw_ret | apply aw_skip | apply aw_exit | apply aw_block | apply es_nil
          | (apply es_pure hT; (iterate 4 exact rfl)) | (apply es_skip; (iterate 3 exact rfl)) | (apply es_skip0; (iterate 2 exact rfl))
          | (apply es_i64 hT; (iterate 4 exact rfl); (iterate 2 omega))
          | (apply aw_draw [] [] hmix; decide +kernel)
          | (apply es_callQ (hs := hof); (iterate 7 exact rfl))
          | (apply es_load; (iterate 5 exact rfl); exact ld_fld hT rfl rfl hr AskR.enc_len (adr_add _ _ _) hx (by decide) rfl)
          | (apply es_load; (iterate 5 exact rfl); first | exact ld_blk hT rfl rfl mem0 rfl rfl | exact ld_all hT rfl rfl mem0 rfl)
          | (apply es_load; (iterate 5 exact rfl); first | exact ld_blk hT rfl rfl mem1 rfl rfl | exact ld_all hT rfl rfl mem1 rfl)
          | (apply es_load; (iterate 5 exact rfl); first | exact ld_blk hT rfl rfl mem2 rfl rfl | exact ld_all hT rfl rfl mem2 rfl)
          | (apply es_box; (iterate 5 exact rfl); intro _) | (apply es_alloc hT; (iterate 5 exact rfl); intro _)
          | (apply aw_condT; (iterate 2 exact rfl)) | (apply aw_condF; (iterate 2 exact rfl))
          | (apply es_case; exact rfl; all_goals intro hb; all_goals (try simp only [hb]); all_goals (first | replace hb := of_decide_eq_true hb | replace hb := of_decide_eq_false hb | replace hb := bne_t hb | replace hb := bne_f hb | skip); all_goals (try (exfalso; omega)))
          | (apply aw_cond; exact rfl; all_goals intro hb; all_goals (try simp only [hb]); all_goals (first | replace hb := of_decide_eq_true hb | replace hb := of_decide_eq_false hb | replace hb := bne_t hb | replace hb := bne_f hb | skip); all_goals (try (exfalso; omega))))
        all_goals first
          | (apply ret1; exact rfl; exact ⟨_, dt_end, by rw [hE], by simp [lookA, hg, hE]⟩)
          | (exfalso; omega)
      · have hE : lookE id quote until_ l = 0 := by simp [lookE, hg, hs, hq]
        have q1 : decide (quote < 1) = false := by simp; omega
        have q2 : decide (until_ < 1) = false := by simp; omega
        have hlay : lay (lay (lay (l.flatMap AskR.enc) (bsN (cA id) l * 10 + 8) [.int .i64 2]) (bsN (cA id) l * 10 + 9) [.int .i64 quote]) (bsN (cA id) l * 10 + 7) [.int .i64 until_] = (setA id { x with state := 2, hit := quote, until_ := until_ } l).flatMap AskR.enc := by
          rw [flat_lay AskR.enc_len (x' := { x with state := 2 }) hx (Nat.le_of_ble_eq_true rfl) rfl,
            flat_lay AskR.enc_len (x' := { x with state := 2, hit := quote }) (List.getElem?_set_self hlt) (Nat.le_of_ble_eq_true rfl) rfl,
            flat_lay AskR.enc_len (x' := { x with state := 2, hit := quote, until_ := until_ }) (List.getElem?_set_self (by simpa using hlt)) (Nat.le_of_ble_eq_true rfl) rfl, List.set_set, List.set_set, setA]
        repeat' (first
          | apply aw_seq | apply aw_region | apply aw_ret | apply aw_skip | apply aw_exit | apply aw_block | apply es_nil
          | (apply es_pure hT; (iterate 4 exact rfl)) | (apply es_skip; (iterate 3 exact rfl)) | (apply es_skip0; (iterate 2 exact rfl))
          | (apply es_i64 hT; (iterate 4 exact rfl); (iterate 2 omega))
          | (apply aw_draw [] [] hmix; decide +kernel)
          | (apply es_callQ (hs := hof); (iterate 7 exact rfl))
          | (apply es_load; (iterate 5 exact rfl); exact ld_fld hT rfl rfl hr AskR.enc_len (adr_add _ _ _) hx (by decide) rfl)
          | (apply es_storeRow hT; (iterate 6 exact rfl); (first | exact sel0 | exact sel1 | exact selS sel1 | exact selS (selS sel1) | exact selS (selS (selS sel1)) | exact selS (selS (selS (selS sel1))) | exact selS (selS (selS (selS (selS sel1)))) | exact selS (selS (selS (selS (selS (selS sel1)))))); exact adr_add _ _ _; exact rfl; exact rfl; (first | (show (bsN (cA id) l * 10 + 8) + 1 ≤ l.length * 10; omega) | (show (bsN (cA id) l * 10 + 9) + 1 ≤ l.length * 10; omega) | (show (bsN (cA id) l * 10 + 7) + 1 ≤ l.length * 10; omega)); omega)
          | (apply es_load; (iterate 5 exact rfl); first | exact ld_blk hT rfl rfl mem0 rfl rfl | exact ld_all hT rfl rfl mem0 rfl)
          | (apply es_load; (iterate 5 exact rfl); first | exact ld_blk hT rfl rfl mem1 rfl rfl | exact ld_all hT rfl rfl mem1 rfl)
          | (apply es_load; (iterate 5 exact rfl); first | exact ld_blk hT rfl rfl mem2 rfl rfl | exact ld_all hT rfl rfl mem2 rfl)
          | (apply es_box; (iterate 5 exact rfl); intro _) | (apply es_alloc hT; (iterate 5 exact rfl); intro _)
          | (apply aw_condT; (iterate 2 exact rfl)) | (apply aw_condF; (iterate 2 exact rfl))
          | (apply es_case; exact rfl; all_goals intro hb; all_goals (try simp only [hb]); all_goals (first | replace hb := of_decide_eq_true hb | replace hb := of_decide_eq_false hb | replace hb := bne_t hb | replace hb := bne_f hb | skip); all_goals (try (exfalso; omega)))
          | (apply aw_cond; exact rfl; all_goals intro hb; all_goals (try simp only [hb]); all_goals (first | replace hb := of_decide_eq_true hb | replace hb := of_decide_eq_false hb | replace hb := bne_t hb | replace hb := bne_f hb | skip); all_goals (try (exfalso; omega))))
        apply ret1; exact rfl
        refine ⟨askTab p A c (lookA id quote until_ l) F, ?_, by rw [hE], rfl⟩
        have hll : lookA id quote until_ l = setA id { x with state := 2, hit := quote, until_ := until_ } l := by simp [lookA, hg, hE]
        rw [hll, askTab, ← hlay, show (setA id { x with state := 2, hit := quote, until_ := until_ } l).length = l.length by simp [setA]]
        apply dt_cons; (first | exact sel0 | exact sel1 | exact selS sel1 | exact selS (selS sel1) | exact selS (selS (selS sel1)) | exact selS (selS (selS (selS sel1))) | exact selS (selS (selS (selS (selS sel1)))) | exact selS (selS (selS (selS (selS (selS sel1))))))
        apply dt_cons; (first | exact sel0 | exact sel1 | exact selS sel1 | exact selS (selS sel1) | exact selS (selS (selS sel1)) | exact selS (selS (selS (selS sel1))) | exact selS (selS (selS (selS (selS sel1)))) | exact selS (selS (selS (selS (selS (selS sel1))))))
        (repeat (first | exact dt_end | apply dt_skip))
    · have hs1 : (x.state != 1) = true := by simpa using hs
      repeat' (first
        | apply aw_seq | apply aw_region | apply aw_ret | apply aw_skip | apply aw_exit | apply aw_block | apply es_nil
        | (apply es_pure hT; (iterate 4 exact rfl)) | (apply es_skip; (iterate 3 exact rfl)) | (apply es_skip0; (iterate 2 exact rfl))
        | (apply es_i64 hT; (iterate 4 exact rfl); (iterate 2 omega))
        | (apply aw_draw [] [] hmix; decide +kernel)
        | (apply es_callQ (hs := hof); (iterate 7 exact rfl))
        | (apply es_load; (iterate 5 exact rfl); exact ld_fld hT rfl rfl hr AskR.enc_len (adr_add _ _ _) hx (by decide) rfl)
        | (apply es_load; (iterate 5 exact rfl); first | exact ld_blk hT rfl rfl mem0 rfl rfl | exact ld_all hT rfl rfl mem0 rfl)
        | (apply es_load; (iterate 5 exact rfl); first | exact ld_blk hT rfl rfl mem1 rfl rfl | exact ld_all hT rfl rfl mem1 rfl)
        | (apply es_load; (iterate 5 exact rfl); first | exact ld_blk hT rfl rfl mem2 rfl rfl | exact ld_all hT rfl rfl mem2 rfl)
        | (apply es_box; (iterate 5 exact rfl); intro _) | (apply es_alloc hT; (iterate 5 exact rfl); intro _)
        | (apply aw_condT; (iterate 2 exact rfl)) | (apply aw_condF; (iterate 2 exact rfl))
        | (apply es_case; exact rfl; all_goals intro hb; all_goals (try simp only [hb]); all_goals (first | replace hb := of_decide_eq_true hb | replace hb := of_decide_eq_false hb | replace hb := bne_t hb | replace hb := bne_f hb | skip); all_goals (try (exfalso; omega)))
        | (apply aw_cond; exact rfl; all_goals intro hb; all_goals (try simp only [hb]); all_goals (first | replace hb := of_decide_eq_true hb | replace hb := of_decide_eq_false hb | replace hb := bne_t hb | replace hb := bne_f hb | skip); all_goals (try (exfalso; omega))))
      apply ret1; exact rfl
      exact ⟨_, dt_end, by simp [lookE, hg, hs], by simp [lookA, lookE, hg, hs]⟩

def backE (id : Int) (l : List AskR) : Int := match getA id l with
  | none => 4
  | some x => if x.state = 2 then 0 else 11
def backA (id : Int) (l : List AskR) : List AskR := match getA id l with
  | none => l
  | some x => if backE id l = 0 then setA id { x with state := 1, hit := 0, until_ := 0 } l else l
theorem ask_Back (W : World) (F : List Chunk) (p : Nat) (A : Option Addr) (c : Nat) (l : List AskR) (id : Int) (hb : l.length ≤ 1000000) (hup : upA l) :
    FSpec Try.prog W 40 [.pointer (some ⟨p, 0, none⟩), .int .i64 id] (askTab p A c l F) (fun v h' => v = .int .i64 (backE id l) ∧ h' = askTab p A c (backA id l) F) := by
  refine FSpec.dropTo ?_
  refine spec_body Try.func40 rfl rfl Try.results40 Try.ntmps40 rfl rfl ?_
  refine aw_fact (h := askTab p A c l F) mem1 (fun hl hnc hcc hsome hnone hone => ?_)
  have hr : Reads W (askTab p A c l F) A l.length 10 (l.flatMap AskR.enc) := Reads.own mem1 hl hone
  have hof := (ask_of W p A c l id hb hup).mono (h' := askTab p A c l F) (by intro c hc; simp only [askTab, List.mem_cons, List.not_mem_nil, or_false] at hc ⊢; rcases hc with rfl | rfl <;> simp)
  unfold ofA at hof
  cases hB : bsB (cA id) l
  · rw [hB] at hof
    repeat' (first
      | apply aw_seq | apply aw_region | apply aw_ret | apply aw_skip | apply aw_exit | apply aw_block | apply es_nil
      | (apply es_pure hT; (iterate 4 exact rfl)) | (apply es_skip; (iterate 3 exact rfl)) | (apply es_skip0; (iterate 2 exact rfl))
      | (apply es_i64 hT; (iterate 4 exact rfl); (iterate 2 omega))
      | (apply aw_draw [] [] hmix; decide +kernel)
      | (apply es_callQ (hs := hof); (iterate 7 exact rfl))
      | (apply es_load; (iterate 5 exact rfl); first | exact ld_blk hT rfl rfl mem0 rfl rfl | exact ld_all hT rfl rfl mem0 rfl)
      | (apply es_load; (iterate 5 exact rfl); first | exact ld_blk hT rfl rfl mem1 rfl rfl | exact ld_all hT rfl rfl mem1 rfl)
      | (apply es_load; (iterate 5 exact rfl); first | exact ld_blk hT rfl rfl mem2 rfl rfl | exact ld_all hT rfl rfl mem2 rfl)
      | (apply es_box; (iterate 5 exact rfl); intro _) | (apply es_alloc hT; (iterate 5 exact rfl); intro _)
      | (apply aw_condT; (iterate 2 exact rfl)) | (apply aw_condF; (iterate 2 exact rfl))
      | (apply es_case; exact rfl; all_goals intro hb; all_goals (try simp only [hb]); all_goals (first | replace hb := of_decide_eq_true hb | replace hb := of_decide_eq_false hb | replace hb := bne_t hb | replace hb := bne_f hb | skip); all_goals (try (exfalso; omega)))
      | (apply aw_cond; exact rfl; all_goals intro hb; all_goals (try simp only [hb]); all_goals (first | replace hb := of_decide_eq_true hb | replace hb := of_decide_eq_false hb | replace hb := bne_t hb | replace hb := bne_f hb | skip); all_goals (try (exfalso; omega))))
    apply ret1; exact rfl
    exact ⟨_, dt_end, by simp [backE, getA_none hB], by simp [backA, getA_none hB]⟩
  · obtain ⟨x, hx, _, hg⟩ := getA_some hB
    rw [hB] at hof
    have hlt := (List.getElem?_eq_some_iff.1 hx).1
    by_cases hs : x.state = 2
    · have hs1 : (x.state != 2) = false := by simpa using hs
      have hE : backE id l = 0 := by simp [backE, hg, hs]
      have hlay : lay (lay (lay (l.flatMap AskR.enc) (bsN (cA id) l * 10 + 8) [.int .i64 1]) (bsN (cA id) l * 10 + 9) [.int .i64 0]) (bsN (cA id) l * 10 + 7) [.int .i64 0] = (setA id { x with state := 1, hit := 0, until_ := 0 } l).flatMap AskR.enc := by
        rw [flat_lay AskR.enc_len (x' := { x with state := 1 }) hx (Nat.le_of_ble_eq_true rfl) rfl,
          flat_lay AskR.enc_len (x' := { x with state := 1, hit := 0 }) (List.getElem?_set_self hlt) (Nat.le_of_ble_eq_true rfl) rfl,
          flat_lay AskR.enc_len (x' := { x with state := 1, hit := 0, until_ := 0 }) (List.getElem?_set_self (by simpa using hlt)) (Nat.le_of_ble_eq_true rfl) rfl, List.set_set, List.set_set, setA]
      repeat' (first
        | apply aw_seq | apply aw_region | apply aw_ret | apply aw_skip | apply aw_exit | apply aw_block | apply es_nil
        | (apply es_pure hT; (iterate 4 exact rfl)) | (apply es_skip; (iterate 3 exact rfl)) | (apply es_skip0; (iterate 2 exact rfl))
        | (apply es_i64 hT; (iterate 4 exact rfl); (iterate 2 omega))
        | (apply aw_draw [] [] hmix; decide +kernel)
        | (apply es_callQ (hs := hof); (iterate 7 exact rfl))
        | (apply es_load; (iterate 5 exact rfl); exact ld_fld hT rfl rfl hr AskR.enc_len (adr_add _ _ _) hx (by decide) rfl)
        | (apply es_storeRow hT; (iterate 6 exact rfl); (first | exact sel0 | exact sel1 | exact selS sel1 | exact selS (selS sel1) | exact selS (selS (selS sel1)) | exact selS (selS (selS (selS sel1))) | exact selS (selS (selS (selS (selS sel1)))) | exact selS (selS (selS (selS (selS (selS sel1)))))); exact adr_add _ _ _; exact rfl; exact rfl; (first | (show (bsN (cA id) l * 10 + 8) + 1 ≤ l.length * 10; omega) | (show (bsN (cA id) l * 10 + 9) + 1 ≤ l.length * 10; omega) | (show (bsN (cA id) l * 10 + 7) + 1 ≤ l.length * 10; omega)); omega)
        | (apply es_load; (iterate 5 exact rfl); first | exact ld_blk hT rfl rfl mem0 rfl rfl | exact ld_all hT rfl rfl mem0 rfl)
        | (apply es_load; (iterate 5 exact rfl); first | exact ld_blk hT rfl rfl mem1 rfl rfl | exact ld_all hT rfl rfl mem1 rfl)
        | (apply es_load; (iterate 5 exact rfl); first | exact ld_blk hT rfl rfl mem2 rfl rfl | exact ld_all hT rfl rfl mem2 rfl)
        | (apply es_box; (iterate 5 exact rfl); intro _) | (apply es_alloc hT; (iterate 5 exact rfl); intro _)
        | (apply aw_condT; (iterate 2 exact rfl)) | (apply aw_condF; (iterate 2 exact rfl))
        | (apply es_case; exact rfl; all_goals intro hb; all_goals (try simp only [hb]); all_goals (first | replace hb := of_decide_eq_true hb | replace hb := of_decide_eq_false hb | replace hb := bne_t hb | replace hb := bne_f hb | skip); all_goals (try (exfalso; omega)))
        | (apply aw_cond; exact rfl; all_goals intro hb; all_goals (try simp only [hb]); all_goals (first | replace hb := of_decide_eq_true hb | replace hb := of_decide_eq_false hb | replace hb := bne_t hb | replace hb := bne_f hb | skip); all_goals (try (exfalso; omega))))
      apply ret1; exact rfl
      refine ⟨askTab p A c (backA id l) F, ?_, by rw [hE], rfl⟩
      have hll : backA id l = setA id { x with state := 1, hit := 0, until_ := 0 } l := by simp [backA, hg, hE]
      rw [hll, askTab, ← hlay, show (setA id { x with state := 1, hit := 0, until_ := 0 } l).length = l.length by simp [setA]]
      apply dt_cons; (first | exact sel0 | exact sel1 | exact selS sel1 | exact selS (selS sel1) | exact selS (selS (selS sel1)) | exact selS (selS (selS (selS sel1))) | exact selS (selS (selS (selS (selS sel1)))) | exact selS (selS (selS (selS (selS (selS sel1))))))
      apply dt_cons; (first | exact sel0 | exact sel1 | exact selS sel1 | exact selS (selS sel1) | exact selS (selS (selS sel1)) | exact selS (selS (selS (selS sel1))) | exact selS (selS (selS (selS (selS sel1)))) | exact selS (selS (selS (selS (selS (selS sel1))))))
      (repeat (first | exact dt_end | apply dt_skip))
    · have hs1 : (x.state != 2) = true := by simpa using hs
      repeat' (first
        | apply aw_seq | apply aw_region | apply aw_ret | apply aw_skip | apply aw_exit | apply aw_block | apply es_nil
        | (apply es_pure hT; (iterate 4 exact rfl)) | (apply es_skip; (iterate 3 exact rfl)) | (apply es_skip0; (iterate 2 exact rfl))
        | (apply es_i64 hT; (iterate 4 exact rfl); (iterate 2 omega))
        | (apply aw_draw [] [] hmix; decide +kernel)
        | (apply es_callQ (hs := hof); (iterate 7 exact rfl))
        | (apply es_load; (iterate 5 exact rfl); exact ld_fld hT rfl rfl hr AskR.enc_len (adr_add _ _ _) hx (by decide) rfl)
        | (apply es_load; (iterate 5 exact rfl); first | exact ld_blk hT rfl rfl mem0 rfl rfl | exact ld_all hT rfl rfl mem0 rfl)
        | (apply es_load; (iterate 5 exact rfl); first | exact ld_blk hT rfl rfl mem1 rfl rfl | exact ld_all hT rfl rfl mem1 rfl)
        | (apply es_load; (iterate 5 exact rfl); first | exact ld_blk hT rfl rfl mem2 rfl rfl | exact ld_all hT rfl rfl mem2 rfl)
        | (apply es_box; (iterate 5 exact rfl); intro _) | (apply es_alloc hT; (iterate 5 exact rfl); intro _)
        | (apply aw_condT; (iterate 2 exact rfl)) | (apply aw_condF; (iterate 2 exact rfl))
        | (apply es_case; exact rfl; all_goals intro hb; all_goals (try simp only [hb]); all_goals (first | replace hb := of_decide_eq_true hb | replace hb := of_decide_eq_false hb | replace hb := bne_t hb | replace hb := bne_f hb | skip); all_goals (try (exfalso; omega)))
        | (apply aw_cond; exact rfl; all_goals intro hb; all_goals (try simp only [hb]); all_goals (first | replace hb := of_decide_eq_true hb | replace hb := of_decide_eq_false hb | replace hb := bne_t hb | replace hb := bne_f hb | skip); all_goals (try (exfalso; omega))))
      apply ret1; exact rfl
      exact ⟨_, dt_end, by simp [backE, hg, hs], by simp [backA, backE, hg, hs]⟩

def endE (id state : Int) (l : List AskR) : Int := match getA id l with
  | none => 4
  | some x => if state ≠ 3 ∧ state ≠ 4 then 1 else if x.state = 3 ∨ x.state = 4 ∨ (state = 3 ∧ x.state ≠ 2) then 11 else 0
def endX (state : Int) (x : AskR) : AskR := if state = 4 then { x with state := state, until_ := 0, hit := 0 } else { x with state := state, until_ := 0 }
def endA (id state : Int) (l : List AskR) : List AskR := match getA id l with
  | none => l
  | some x => if endE id state l = 0 then setA id (endX state x) l else l

set_option maxHeartbeats 1000000 in
theorem ask_End (W : World) (F : List Chunk) (p : Nat) (A : Option Addr) (c : Nat) (l : List AskR) (id state : Int) (hb : l.length ≤ 1000000) (hup : upA l) :
    FSpec Try.prog W 42 [.pointer (some ⟨p, 0, none⟩), .int .i64 id, .int .i64 state] (askTab p A c l F) (fun v h' => v = .int .i64 (endE id state l) ∧ h' = askTab p A c (endA id state l) F) := by
  refine FSpec.dropTo ?_
  refine spec_body Try.func42 rfl rfl Try.results42 Try.ntmps42 rfl rfl ?_
  refine aw_fact (h := askTab p A c l F) mem1 (fun hl hnc hcc hsome hnone hone => ?_)
  have hr : Reads W (askTab p A c l F) A l.length 10 (l.flatMap AskR.enc) := Reads.own mem1 hl hone
  have hof := (ask_of W p A c l id hb hup).mono (h' := askTab p A c l F) (by intro c hc; simp only [askTab, List.mem_cons, List.not_mem_nil, or_false] at hc ⊢; rcases hc with rfl | rfl <;> simp)
  unfold ofA at hof
  cases hB : bsB (cA id) l
  · rw [hB] at hof
    repeat' (first
      | apply aw_seq | apply aw_region | apply aw_ret | apply aw_skip | apply aw_exit | apply aw_block | apply es_nil
      | (apply es_pure hT; (iterate 4 exact rfl)) | (apply es_skip; (iterate 3 exact rfl)) | (apply es_skip0; (iterate 2 exact rfl))
      | (apply es_i64 hT; (iterate 4 exact rfl); (iterate 2 omega))
      | (apply aw_draw [] [] hmix; decide +kernel)
      | (apply es_callQ (hs := hof); (iterate 7 exact rfl))
      | (apply es_load; (iterate 5 exact rfl); first | exact ld_blk hT rfl rfl mem0 rfl rfl | exact ld_all hT rfl rfl mem0 rfl)
      | (apply es_load; (iterate 5 exact rfl); first | exact ld_blk hT rfl rfl mem1 rfl rfl | exact ld_all hT rfl rfl mem1 rfl)
      | (apply es_load; (iterate 5 exact rfl); first | exact ld_blk hT rfl rfl mem2 rfl rfl | exact ld_all hT rfl rfl mem2 rfl)
      | (apply es_box; (iterate 5 exact rfl); intro _) | (apply es_alloc hT; (iterate 5 exact rfl); intro _)
      | (apply aw_condT; (iterate 2 exact rfl)) | (apply aw_condF; (iterate 2 exact rfl))
      | (apply es_case; exact rfl; all_goals intro hb; all_goals (try simp only [hb]); all_goals (first | replace hb := of_decide_eq_true hb | replace hb := of_decide_eq_false hb | replace hb := bne_t hb | replace hb := bne_f hb | skip); all_goals (try (exfalso; omega)))
      | (apply aw_cond; exact rfl; all_goals intro hb; all_goals (try simp only [hb]); all_goals (first | replace hb := of_decide_eq_true hb | replace hb := of_decide_eq_false hb | replace hb := bne_t hb | replace hb := bne_f hb | skip); all_goals (try (exfalso; omega))))
    apply ret1; exact rfl
    exact ⟨_, dt_end, by simp [endE, getA_none hB], by simp [endA, getA_none hB]⟩
  · obtain ⟨x, hx, _, hg⟩ := getA_some hB
    rw [hB] at hof
    have hlt := (List.getElem?_eq_some_iff.1 hx).1
    by_cases h0 : endE id state l = 0
    · have hee := h0
      simp only [endE, hg] at hee
      have hst : ¬ (state ≠ 3 ∧ state ≠ 4) := fun h => by rw [if_pos h] at hee; omega
      have hxs : ¬ (x.state = 3 ∨ x.state = 4 ∨ (state = 3 ∧ x.state ≠ 2)) := fun h => by rw [if_neg hst, if_pos h] at hee; omega
      have hll : endA id state l = setA id (endX state x) l := by simp [endA, hg, h0]
      by_cases h4 : state = 4
      · subst h4
        have hX : endX 4 x = { x with state := 4, until_ := 0, hit := 0 } := rfl
        rw [hX] at hll
        have hlay : lay (lay (lay (l.flatMap AskR.enc) (bsN (cA id) l * 10 + 8) [.int .i64 4]) (bsN (cA id) l * 10 + 7) [.int .i64 0]) (bsN (cA id) l * 10 + 9) [.int .i64 0] = (setA id { x with state := 4, until_ := 0, hit := 0 } l).flatMap AskR.enc := by
          rw [flat_lay AskR.enc_len (x' := { x with state := 4 }) hx (Nat.le_of_ble_eq_true rfl) rfl,
            flat_lay AskR.enc_len (x' := { x with state := 4, until_ := 0 }) (List.getElem?_set_self hlt) (Nat.le_of_ble_eq_true rfl) rfl,
            flat_lay AskR.enc_len (x' := { x with state := 4, until_ := 0, hit := 0 }) (List.getElem?_set_self (by simpa using hlt)) (Nat.le_of_ble_eq_true rfl) rfl, List.set_set, List.set_set, setA]
        repeat' (first
          | apply aw_seq | apply aw_region | apply aw_ret | apply aw_skip | apply aw_exit | apply aw_block | apply es_nil
          | (apply es_pure hT; (iterate 4 exact rfl)) | (apply es_skip; (iterate 3 exact rfl)) | (apply es_skip0; (iterate 2 exact rfl))
          | (apply es_i64 hT; (iterate 4 exact rfl); (iterate 2 omega))
          | (apply aw_draw [] [] hmix; decide +kernel)
          | (apply es_callQ (hs := hof); (iterate 7 exact rfl))
          | (apply es_load; (iterate 5 exact rfl); exact ld_fld hT rfl rfl hr AskR.enc_len (adr_add _ _ _) hx (by decide) rfl)
          | (apply es_storeRow hT; (iterate 6 exact rfl); (first | exact sel0 | exact sel1 | exact selS sel1 | exact selS (selS sel1) | exact selS (selS (selS sel1)) | exact selS (selS (selS (selS sel1))) | exact selS (selS (selS (selS (selS sel1)))) | exact selS (selS (selS (selS (selS (selS sel1)))))); exact adr_add _ _ _; exact rfl; exact rfl; (first | (show (bsN (cA id) l * 10 + 8) + 1 ≤ l.length * 10; omega) | (show (bsN (cA id) l * 10 + 9) + 1 ≤ l.length * 10; omega) | (show (bsN (cA id) l * 10 + 7) + 1 ≤ l.length * 10; omega)); omega)
          | (apply es_load; (iterate 5 exact rfl); first | exact ld_blk hT rfl rfl mem0 rfl rfl | exact ld_all hT rfl rfl mem0 rfl)
          | (apply es_load; (iterate 5 exact rfl); first | exact ld_blk hT rfl rfl mem1 rfl rfl | exact ld_all hT rfl rfl mem1 rfl)
          | (apply es_load; (iterate 5 exact rfl); first | exact ld_blk hT rfl rfl mem2 rfl rfl | exact ld_all hT rfl rfl mem2 rfl)
          | (apply es_box; (iterate 5 exact rfl); intro _) | (apply es_alloc hT; (iterate 5 exact rfl); intro _)
          | (apply aw_condT; (iterate 2 exact rfl)) | (apply aw_condF; (iterate 2 exact rfl))
          | (apply es_case; exact rfl; all_goals intro hb; all_goals (try simp only [hb]); all_goals (first | replace hb := of_decide_eq_true hb | replace hb := of_decide_eq_false hb | replace hb := bne_t hb | replace hb := bne_f hb | skip); all_goals (try (exfalso; omega)))
          | (apply aw_cond; exact rfl; all_goals intro hb; all_goals (try simp only [hb]); all_goals (first | replace hb := of_decide_eq_true hb | replace hb := of_decide_eq_false hb | replace hb := bne_t hb | replace hb := bne_f hb | skip); all_goals (try (exfalso; omega))))
        all_goals first
          | (exfalso; omega)
          | (apply ret1; exact rfl
             refine ⟨askTab p A c (endA id 4 l) F, ?_, by rw [h0], rfl⟩
             rw [hll, askTab, ← hlay, show (setA id { x with state := 4, until_ := 0, hit := 0 } l).length = l.length by simp [setA]]
             apply dt_cons; (first | exact sel0 | exact sel1 | exact selS sel1 | exact selS (selS sel1) | exact selS (selS (selS sel1)) | exact selS (selS (selS (selS sel1))) | exact selS (selS (selS (selS (selS sel1)))) | exact selS (selS (selS (selS (selS (selS sel1))))))
             apply dt_cons; (first | exact sel0 | exact sel1 | exact selS sel1 | exact selS (selS sel1) | exact selS (selS (selS sel1)) | exact selS (selS (selS (selS sel1))) | exact selS (selS (selS (selS (selS sel1)))) | exact selS (selS (selS (selS (selS (selS sel1))))))
             (repeat (first | exact dt_end | apply dt_skip)))
      · obtain rfl : state = 3 := by omega
        have hX : endX 3 x = { x with state := 3, until_ := 0 } := rfl
        rw [hX] at hll
        have hlay : lay (lay (l.flatMap AskR.enc) (bsN (cA id) l * 10 + 8) [.int .i64 3]) (bsN (cA id) l * 10 + 7) [.int .i64 0] = (setA id { x with state := 3, until_ := 0 } l).flatMap AskR.enc := by
          rw [flat_lay AskR.enc_len (x' := { x with state := 3 }) hx (Nat.le_of_ble_eq_true rfl) rfl,
            flat_lay AskR.enc_len (x' := { x with state := 3, until_ := 0 }) (List.getElem?_set_self hlt) (Nat.le_of_ble_eq_true rfl) rfl, List.set_set, setA]
        repeat' (first
          | apply aw_seq | apply aw_region | apply aw_ret | apply aw_skip | apply aw_exit | apply aw_block | apply es_nil
          | (apply es_pure hT; (iterate 4 exact rfl)) | (apply es_skip; (iterate 3 exact rfl)) | (apply es_skip0; (iterate 2 exact rfl))
          | (apply es_i64 hT; (iterate 4 exact rfl); (iterate 2 omega))
          | (apply aw_draw [] [] hmix; decide +kernel)
          | (apply es_callQ (hs := hof); (iterate 7 exact rfl))
          | (apply es_load; (iterate 5 exact rfl); exact ld_fld hT rfl rfl hr AskR.enc_len (adr_add _ _ _) hx (by decide) rfl)
          | (apply es_storeRow hT; (iterate 6 exact rfl); (first | exact sel0 | exact sel1 | exact selS sel1 | exact selS (selS sel1) | exact selS (selS (selS sel1)) | exact selS (selS (selS (selS sel1))) | exact selS (selS (selS (selS (selS sel1)))) | exact selS (selS (selS (selS (selS (selS sel1)))))); exact adr_add _ _ _; exact rfl; exact rfl; (first | (show (bsN (cA id) l * 10 + 8) + 1 ≤ l.length * 10; omega) | (show (bsN (cA id) l * 10 + 9) + 1 ≤ l.length * 10; omega) | (show (bsN (cA id) l * 10 + 7) + 1 ≤ l.length * 10; omega)); omega)
          | (apply es_load; (iterate 5 exact rfl); first | exact ld_blk hT rfl rfl mem0 rfl rfl | exact ld_all hT rfl rfl mem0 rfl)
          | (apply es_load; (iterate 5 exact rfl); first | exact ld_blk hT rfl rfl mem1 rfl rfl | exact ld_all hT rfl rfl mem1 rfl)
          | (apply es_load; (iterate 5 exact rfl); first | exact ld_blk hT rfl rfl mem2 rfl rfl | exact ld_all hT rfl rfl mem2 rfl)
          | (apply es_box; (iterate 5 exact rfl); intro _) | (apply es_alloc hT; (iterate 5 exact rfl); intro _)
          | (apply aw_condT; (iterate 2 exact rfl)) | (apply aw_condF; (iterate 2 exact rfl))
          | (apply es_case; exact rfl; all_goals intro hb; all_goals (try simp only [hb]); all_goals (first | replace hb := of_decide_eq_true hb | replace hb := of_decide_eq_false hb | replace hb := bne_t hb | replace hb := bne_f hb | skip); all_goals (try (exfalso; omega)))
          | (apply aw_cond; exact rfl; all_goals intro hb; all_goals (try simp only [hb]); all_goals (first | replace hb := of_decide_eq_true hb | replace hb := of_decide_eq_false hb | replace hb := bne_t hb | replace hb := bne_f hb | skip); all_goals (try (exfalso; omega))))
        all_goals first
          | (exfalso; omega)
          | (apply ret1; exact rfl
             refine ⟨askTab p A c (endA id 3 l) F, ?_, by rw [h0], rfl⟩
             rw [hll, askTab, ← hlay, show (setA id { x with state := 3, until_ := 0 } l).length = l.length by simp [setA]]
             apply dt_cons; (first | exact sel0 | exact sel1 | exact selS sel1 | exact selS (selS sel1) | exact selS (selS (selS sel1)) | exact selS (selS (selS (selS sel1))) | exact selS (selS (selS (selS (selS sel1)))) | exact selS (selS (selS (selS (selS (selS sel1))))))
             apply dt_cons; (first | exact sel0 | exact sel1 | exact selS sel1 | exact selS (selS sel1) | exact selS (selS (selS sel1)) | exact selS (selS (selS (selS sel1))) | exact selS (selS (selS (selS (selS sel1)))) | exact selS (selS (selS (selS (selS (selS sel1))))))
             (repeat (first | exact dt_end | apply dt_skip)))
    · have hll : endA id state l = l := by simp [endA, hg, h0]
      repeat' (first
        | apply aw_seq | apply aw_region | apply aw_ret | apply aw_skip | apply aw_exit | apply aw_block | apply es_nil
        | (apply es_pure hT; (iterate 4 exact rfl)) | (apply es_skip; (iterate 3 exact rfl)) | (apply es_skip0; (iterate 2 exact rfl))
        | (apply es_i64 hT; (iterate 4 exact rfl); (iterate 2 omega))
        | (apply aw_draw [] [] hmix; decide +kernel)
        | (apply es_callQ (hs := hof); (iterate 7 exact rfl))
        | (apply es_load; (iterate 5 exact rfl); exact ld_fld hT rfl rfl hr AskR.enc_len (adr_add _ _ _) hx (by decide) rfl)
        | (apply es_load; (iterate 5 exact rfl); first | exact ld_blk hT rfl rfl mem0 rfl rfl | exact ld_all hT rfl rfl mem0 rfl)
        | (apply es_load; (iterate 5 exact rfl); first | exact ld_blk hT rfl rfl mem1 rfl rfl | exact ld_all hT rfl rfl mem1 rfl)
        | (apply es_load; (iterate 5 exact rfl); first | exact ld_blk hT rfl rfl mem2 rfl rfl | exact ld_all hT rfl rfl mem2 rfl)
        | (apply es_box; (iterate 5 exact rfl); intro _) | (apply es_alloc hT; (iterate 5 exact rfl); intro _)
        | (apply aw_condT; (iterate 2 exact rfl)) | (apply aw_condF; (iterate 2 exact rfl))
        | (apply es_case; exact rfl; all_goals intro hb; all_goals (try simp only [hb]); all_goals (first | replace hb := of_decide_eq_true hb | replace hb := of_decide_eq_false hb | replace hb := bne_t hb | replace hb := bne_f hb | skip); all_goals (try (exfalso; omega)))
        | (apply aw_cond; exact rfl; all_goals intro hb; all_goals (try simp only [hb]); all_goals (first | replace hb := of_decide_eq_true hb | replace hb := of_decide_eq_false hb | replace hb := bne_t hb | replace hb := bne_f hb | skip); all_goals (try (exfalso; omega))))
      all_goals first
        | (apply ret1; exact rfl; refine ⟨_, dt_end, ?_, by rw [hll]⟩; congr 1; simp only [endE, hg]; (repeat' split) <;> first | rfl | (exfalso; omega))
        | (exfalso; apply h0; simp only [endE, hg]; (repeat' split) <;> first | rfl | (exfalso; omega))

def zeroA : AskR := ⟨0, 0, 0, 0, 0, 0, 0, 0, 0, 0⟩
def gotA : Option AskR → Value
  | some x => .tuple #[.agg x.enc.toArray, .bool true]
  | none => .tuple #[.agg zeroA.enc.toArray, .bool false]
theorem ask_Get (W : World) (p : Nat) (A : Option Addr) (c : Nat) (l : List AskR) (id : Int) (hb : l.length ≤ 1000000) (hup : upA l) :
    QSpec Try.prog W 44 [.pointer (some ⟨p, 0, none⟩), .int .i64 id] (askTab p A c l []) (gotA (getA id l)) := by
  refine QSpec.ofD (fun h' hs => ?_)
  have m1 := hs _ mem0
  have m2 := hs _ mem1
  refine spec_body Try.func44 rfl rfl Try.results44 Try.ntmps44 rfl rfl ?_
  refine aw_fact m2 (fun hl hnc hcc hsome hnone hone => ?_)
  have hr := Reads.own (W := W) m2 hl hone
  have hfind := (ask_find W p A c l id hb hup).mono (h' := h') hs
  unfold findA at hfind
  cases hB : bsB (cA id) l
  · rw [hB] at hfind
    repeat' (first
      | apply aw_seq | apply aw_region | apply aw_ret | apply aw_skip | apply aw_exit | apply aw_block | apply es_nil
      | (apply es_pure hT; (iterate 4 exact rfl)) | (apply es_skip; (iterate 3 exact rfl)) | (apply es_skip0; (iterate 2 exact rfl))
      | (apply es_i64 hT; (iterate 4 exact rfl); (iterate 2 omega))
      | (apply aw_draw [] [] hmix; decide +kernel)
      | (apply es_alloc hT; (iterate 5 exact rfl); intro g4)
      | (apply es_callQ (hs := (hfind.mono (fun c hc => .tail _ hc))); (iterate 7 exact rfl))
      | (apply es_build hT; (iterate 4 exact rfl))
      | (apply es_store hT; (iterate 6 exact rfl); (first | exact sel0 | exact sel1 | exact selS sel1 | exact selS (selS sel1) | exact selS (selS (selS sel1)) | exact selS (selS (selS (selS sel1))) | exact selS (selS (selS (selS (selS sel1)))) | exact selS (selS (selS (selS (selS (selS sel1)))))); (iterate 3 exact rfl); exact Nat.le_of_ble_eq_true rfl)
      | (apply es_load; (iterate 5 exact rfl); first | exact ld_blk hT rfl rfl mem0 rfl rfl | exact ld_all hT rfl rfl mem0 rfl)
      | (apply es_load; (iterate 5 exact rfl); first | exact ld_blk hT rfl rfl mem1 rfl rfl | exact ld_all hT rfl rfl mem1 rfl)
      | (apply es_load; (iterate 5 exact rfl); first | exact ld_blk hT rfl rfl mem2 rfl rfl | exact ld_all hT rfl rfl mem2 rfl)
      | (apply es_box; (iterate 5 exact rfl); intro _) | (apply es_alloc hT; (iterate 5 exact rfl); intro _)
      | (apply aw_condT; (iterate 2 exact rfl)) | (apply aw_condF; (iterate 2 exact rfl))
      | (apply es_case; exact rfl; all_goals intro hb; all_goals (try simp only [hb]); all_goals (first | replace hb := of_decide_eq_true hb | replace hb := of_decide_eq_false hb | replace hb := bne_t hb | replace hb := bne_f hb | skip); all_goals (try (exfalso; omega)))
      | (apply aw_cond; exact rfl; all_goals intro hb; all_goals (try simp only [hb]); all_goals (first | replace hb := of_decide_eq_true hb | replace hb := of_decide_eq_false hb | replace hb := bne_t hb | replace hb := bne_f hb | skip); all_goals (try (exfalso; omega))))
    apply ret2c; exact rfl; exact ld_all hT rfl rfl mem0 rfl; exact rfl
    exact ⟨by rw [getA_none hB]; rfl, dt_skip dt_end⟩
  · obtain ⟨x, hx, _, hg⟩ := getA_some hB
    have hlt := (List.getElem?_eq_some_iff.1 hx).1
    rw [hB] at hfind
    obtain ⟨g, hA⟩ := hsome (by omega)
    have hA2 : A.isSome = true := by rw [hA]; rfl
    have hx2 : l[((bsN (cA id) l : Nat) : Int).toNat]? = some x := by simpa using hx
    repeat' (first
      | apply aw_seq | apply aw_region | apply aw_ret | apply aw_skip | apply aw_exit | apply aw_block | apply es_nil
      | (apply es_pure hT; (iterate 4 exact rfl)) | (apply es_skip; (iterate 3 exact rfl)) | (apply es_skip0; (iterate 2 exact rfl))
      | (apply es_i64 hT; (iterate 4 exact rfl); (iterate 2 omega))
      | (apply aw_draw [] [] hmix; decide +kernel)
      | (apply es_alloc hT; (iterate 5 exact rfl); intro g4)
      | (apply es_callQ (hs := (hfind.mono (fun c hc => .tail _ hc))); (iterate 7 exact rfl))
      | (apply es_idx hT; (iterate 8 exact rfl); (iterate 2 omega); exact hA2)
      | (apply es_load; (iterate 5 exact rfl); exact ld_elem hT rfl rfl hr.cons AskR.enc_len rfl hx2 rfl)
      | (apply es_store hT; (iterate 6 exact rfl); (first | exact sel0 | exact sel1 | exact selS sel1 | exact selS (selS sel1) | exact selS (selS (selS sel1)) | exact selS (selS (selS (selS sel1))) | exact selS (selS (selS (selS (selS sel1)))) | exact selS (selS (selS (selS (selS (selS sel1)))))); (iterate 3 exact rfl); exact Nat.le_of_ble_eq_true rfl)
      | (apply es_load; (iterate 5 exact rfl); first | exact ld_blk hT rfl rfl mem0 rfl rfl | exact ld_all hT rfl rfl mem0 rfl)
      | (apply es_load; (iterate 5 exact rfl); first | exact ld_blk hT rfl rfl mem1 rfl rfl | exact ld_all hT rfl rfl mem1 rfl)
      | (apply es_load; (iterate 5 exact rfl); first | exact ld_blk hT rfl rfl mem2 rfl rfl | exact ld_all hT rfl rfl mem2 rfl)
      | (apply es_load; (iterate 5 exact rfl); first | exact ld_blk hT rfl rfl m1 rfl rfl | exact ld_all hT rfl rfl m1 rfl)
      | (apply es_load; (iterate 5 exact rfl); first | exact ld_blk hT rfl rfl (List.mem_cons_of_mem _ m1) rfl rfl | exact ld_all hT rfl rfl (List.mem_cons_of_mem _ m1) rfl)
      | (apply es_load; (iterate 5 exact rfl); first | exact ld_blk hT rfl rfl (List.mem_cons_of_mem _ (List.mem_cons_of_mem _ m1)) rfl rfl | exact ld_all hT rfl rfl (List.mem_cons_of_mem _ (List.mem_cons_of_mem _ m1)) rfl)
      | (apply es_box; (iterate 5 exact rfl); intro _) | (apply es_alloc hT; (iterate 5 exact rfl); intro _)
      | (apply aw_condT; (iterate 2 exact rfl)) | (apply aw_condF; (iterate 2 exact rfl))
      | (apply es_case; exact rfl; all_goals intro hb; all_goals (try simp only [hb]); all_goals (first | replace hb := of_decide_eq_true hb | replace hb := of_decide_eq_false hb | replace hb := bne_t hb | replace hb := bne_f hb | skip); all_goals (try (exfalso; omega)))
      | (apply aw_cond; exact rfl; all_goals intro hb; all_goals (try simp only [hb]); all_goals (first | replace hb := of_decide_eq_true hb | replace hb := of_decide_eq_false hb | replace hb := bne_t hb | replace hb := bne_f hb | skip); all_goals (try (exfalso; omega))))
    apply ret2c; exact rfl; exact ld_all hT rfl rfl mem0 rfl; exact rfl
    exact ⟨by rw [hg]; rfl, dt_skip dt_end⟩

end Go.Proofs.Ytmoglacdddinjaa
