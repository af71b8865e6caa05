/- The statement's walk, and what it stands on, joined into few texts: part 3. Conditions stand in each statement. -/
import Derived.Test.YtakilgkpfjhfdaaGreatBndL2
set_option linter.all false
namespace Go.Proofs.YtakilgkpfjhfdaaGreat
open Go Go.Sl
attribute [local irreducible] AW ES EP Ld RetQ
set_option maxRecDepth 100000
theorem side_Takes (W : World) (s a b : Int) : QSpec Tryz.prog W 223 [.int .i64 s, .int .i64 a, .int .i64 b] [] (.bool (isB s && !betterB s b a)) := by
  refine QSpec.ofD (fun h' hs => ?_)
  have hI := side_Is W s
  have hB := side_Better W s b a
  refine spec_body Tryz.func223 rfl rfl Tryz.results223 Tryz.ntmps223 rfl rfl ?_
  repeat' (first | apply aw_seq | apply aw_region | apply aw_ret | apply es_nil | apply es_pure hT; iterate 4 exact rfl | apply es_skip; iterate 3 exact rfl | (apply es_callQ (hs := (hI.mono (by simp))); iterate 7 exact rfl) | (apply es_callQ (hs := (hB.mono (by simp))); iterate 7 exact rfl) | (apply es_case; exact rfl; all_goals (intro hb; (fail_if_success (change true = true at hb)); (fail_if_success (change false = false at hb)); (try dsimp only at hb); (try simp only [hb]); (first | skip); (try omega))))
  all_goals
    apply ret1; exact rfl
    refine ⟨?_, by (repeat (first | exact dt_end))⟩
    simp [*]
theorem cross_takes (W : World) (o x : Order) (how : Int) : QSpec Tryz.prog W 212 [.agg o.enc.toArray, .agg x.enc.toArray, .int .i64 how] [] (.bool (takesB how o x)) := by
  refine QSpec.ofD (fun h' hs => ?_)
  have hT' := side_Takes W o.side o.price x.price
  refine spec_body Tryz.func212 rfl rfl Tryz.results212 Tryz.ntmps212 rfl rfl ?_
  repeat' (first | apply aw_seq | apply aw_region | apply aw_ret | apply es_nil | apply es_pure hT; iterate 4 exact rfl | apply es_skip; iterate 3 exact rfl | (apply es_callQ (hs := (hT'.mono (by simp))); iterate 7 exact rfl) | (apply es_load; (iterate 5 exact rfl); first | (apply ld_blk hT; exact rfl; exact rfl; (repeat (first | exact mcs | apply mcm)); exact rfl; exact rfl) ) | apply es_box; (iterate 5 exact rfl); intro _ | (apply es_case; exact rfl; all_goals (intro hb; (fail_if_success (change true = true at hb)); (fail_if_success (change false = false at hb)); (try dsimp only at hb); (try simp only [hb]); (first | replace hb := odt hb | replace hb := odf hb ); (try omega))))
  all_goals
    apply ret1; exact rfl
    refine ⟨?_, by (repeat (first | exact dt_end | apply dt_skip))⟩
    simp [takesB, *]
theorem cross_meets1 (W : World) (o x : Order) (how : Int) (g1 g2 : Nat) : QSpec Tryz.prog W 211 [.agg x.enc.toArray, .pointer (some ⟨g1, 0, none⟩), .pointer (some ⟨g2, 0, none⟩)] [.blk g1 52 o.enc, .blk g2 3 [.int .i64 how]] (.bool (!takesB how o x)) := by
  refine QSpec.ofD (fun h' hs => ?_)
  have m1 := hs _ mem0
  have m2 := hs _ mem1
  have hT' := cross_takes W o x how
  refine spec_body Tryz.func211 rfl rfl Tryz.results211 Tryz.ntmps211 rfl rfl ?_
  repeat' (first | apply aw_seq | apply aw_region | apply aw_ret | apply es_nil | apply es_pure hT; iterate 4 exact rfl | (apply es_callQ (hs := (hT'.mono (by simp))); iterate 7 exact rfl) | (apply es_load; (iterate 5 exact rfl); first | (apply ld_blk hT; exact rfl; exact rfl; (repeat (first | exact m2 | apply mcm)); exact rfl; exact rfl) | (apply ld_all hT; exact rfl; exact rfl; (repeat (first | exact mcs | exact m1 | apply mcm)); exact rfl)) | apply es_box; (iterate 5 exact rfl); intro _)
  apply ret1; exact rfl
  exact ⟨rfl, by (repeat (first | exact dt_end | apply dt_skip))⟩
set_option maxHeartbeats 1000000 in
theorem cross_meets0 (W : World) (h : List Chunk) (p : Nat) (A : Option Addr) (c : Nat) (l : List Order) (o : Order) (how : Int) (hB : BookB l) (m1 : Chunk.blk p 106 [.slice A l.length c] ∈ h) (m2 : Chunk.own A l.length c 52 6 (l.flatMap Order.enc) ∈ h) :
    FSpec Tryz.prog W 194 [.pointer (some ⟨p, 0, none⟩), .agg o.enc.toArray, .int .i64 how] h
      (fun v h' => ∃ A' c', v = .slice A' (meetsO how o l).length c' ∧ h' = .own A' (sideO (otherB o.side) l).length c' 52 6 ((sideO (otherB o.side) l).flatMap Order.enc) :: h) := by
  refine FSpec.dropF ?_
  have hO := side_Other W o.side
  have hS := fun h m1 m2 => book_Side W h p A c l (otherB o.side) m1 m2 hB.le hB.seq hB.side
  have hsl := sideO_len (otherB o.side) l
  have hbl := hB.len
  unfold meetsO
  generalize sideO (otherB o.side) l = sl at hS hsl ⊢
  obtain ⟨hi1, hi2⟩ := idx_tw (p := takesB how o) (l := sl)
  have hidx : ∀ h A2 c2 g1 g2, OwnF A2 sl.length c2 6 (sl.flatMap Order.enc) → Chunk.own A2 sl.length c2 52 6 (sl.flatMap Order.enc) ∈ h → Chunk.blk g1 52 o.enc ∈ h → Chunk.blk g2 3 [.int .i64 how] ∈ h → QSpec Tryz.prog W 129 [.slice A2 sl.length c2, .func (.func 211) #[] #[.pointer (some ⟨g1, 0, none⟩), .pointer (some ⟨g2, 0, none⟩)]] h (.int .i64 (idxOf (fun x => !takesB how o x) sl)) := fun h A2 c2 g1 g2 hf n1 n2 n3 =>
    indexFuncOrder W h A2 _ c2 sl rfl (hf.reads n1) _ [_, _] (fun x => !takesB how o x) (fun x _ => (cross_meets1 W o x how g1 g2).mono (memPairB n2 n3)) (by omega)
  refine spec_body Tryz.func194 rfl rfl Tryz.results194 Tryz.ntmps194 rfl rfl ?_
  rcases Int.lt_or_le (idxOf (fun x => !takesB how o x) sl) 0 with hneg | hpos
  · rw [hi1 hneg]
    generalize idxOf (fun x => !takesB how o x) sl = ix at hneg hidx
    repeat' (first | apply aw_seq | apply aw_region | apply aw_ret | apply es_nil | apply es_pure hT; iterate 4 exact rfl | (apply es_box; (iterate 5 exact rfl); first | (fail_if_success (have q := g4)); intro g4 | intro g5) | (apply es_callQ (hs := (hO.mono (by simp))); iterate 7 exact rfl) | (apply es_call (hs := (hS _ (.tail _ (.tail _ m1)) (.tail _ (.tail _ m2)))); (iterate 7 exact rfl); rintro _ _ ⟨AS, cS, rfl, rfl, hfS⟩) | (apply es_callQ (hs := (hidx _ _ _ _ _ hfS (by (repeat (first | exact mcs ))) (by (repeat (first | exact mcs | apply mcm))) (by (repeat (first | exact mcs | apply mcm))))); iterate 7 exact rfl) | (apply es_load; (iterate 5 exact rfl); first | (apply ld_blk hT; exact rfl; exact rfl; (repeat (first | exact mcs | apply mcm)); exact rfl; exact rfl) ) | (apply aw_cond; exact rfl; all_goals (intro hb; (try dsimp only at hb); (try simp only [hb]); (first | replace hb := odt hb | replace hb := odf hb ); (try omega))))
    all_goals first
      | (exfalso; omega)
      | (apply ret1; exact rfl
         exact ⟨.own AS sl.length cS 52 6 (sl.flatMap Order.enc) :: h, by (repeat (first | exact dt_end | (apply dt_cons; · (repeat (first | exact sel0 ))) | apply dt_skip)), fun w hw => ⟨AS, cS, rfl, rfl⟩⟩)
      | skip
  · obtain ⟨i, hi⟩ := Int.eq_ofNat_of_zero_le hpos
    obtain ⟨e1, e2⟩ := hi2 i hi
    have hln : (sl.take i).length = i := by simp; omega
    rw [e1, hln]
    rw [hi] at hidx
    repeat' (first | apply aw_seq | apply aw_region | apply aw_ret | apply aw_skip | apply es_nil | apply es_pure hT; iterate 4 exact rfl | (apply es_box; (iterate 5 exact rfl); first | (fail_if_success (have q := g4)); intro g4 | intro g5) | (apply es_callQ (hs := (hO.mono (by simp))); iterate 7 exact rfl) | (apply es_call (hs := (hS _ (.tail _ (.tail _ m1)) (.tail _ (.tail _ m2)))); (iterate 7 exact rfl); rintro _ _ ⟨AS, cS, rfl, rfl, hfS⟩) | (apply es_callQ (hs := (hidx _ _ _ _ _ hfS (by (repeat (first | exact mcs ))) (by (repeat (first | exact mcs | apply mcm))) (by (repeat (first | exact mcs | apply mcm))))); iterate 7 exact rfl) | (apply es_sliceTo hT; (iterate 8 exact rfl); omega; (have hnc := hfS.nc; omega)) | (apply es_load; (iterate 5 exact rfl); first | (apply ld_blk hT; exact rfl; exact rfl; (repeat (first | exact mcs | apply mcm)); exact rfl; exact rfl) ) | (apply aw_condF; iterate 2 exact rfl))
    all_goals first
      | (exfalso; omega)
      | (apply ret1; exact rfl
         exact ⟨.own AS sl.length cS 52 6 (sl.flatMap Order.enc) :: h, by (repeat (first | exact dt_end | (apply dt_cons; · (repeat (first | exact sel0 ))) | apply dt_skip)), fun w hw => ⟨AS, cS, rfl, rfl⟩⟩)
      | skip
theorem cross_meets (W : World) (h : List Chunk) (p : Nat) (A : Option Addr) (c : Nat) (l : List Order) (o : Order) (how : Int) (hB : BookB l) (m1 : Chunk.blk p 106 [.slice A l.length c] ∈ h) (m2 : Chunk.own A l.length c 52 6 (l.flatMap Order.enc) ∈ h) :
    FSpec Tryz.prog W 194 [.pointer (some ⟨p, 0, none⟩), .agg o.enc.toArray, .int .i64 how] h
      (fun v h' => ∃ A' c', v = .slice A' (meetsO how o l).length c' ∧ h' = .own A' (meetsO how o l).length c' 52 6 ((meetsO how o l).flatMap Order.enc) :: h ∧ OwnF A' (meetsO how o l).length c' 6 ((meetsO how o l).flatMap Order.enc)) := by
  refine (cross_meets0 W h p A c l o how hB m1 m2).conv ?_
  rintro v h' ⟨A', c', rfl, rfl⟩ w hw
  have hpre := List.takeWhile_prefix (takesB how o) (l := sideO (otherB o.side) l)
  have hle : (meetsO how o l).length ≤ (sideO (otherB o.side) l).length := hpre.length_le
  have hw2 := shrink_own hw hle
  have e : (sideO (otherB o.side) l).take (meetsO how o l).length = meetsO how o l := (List.prefix_iff_eq_take.1 hpre).symm
  rw [flat_take Order.enc_len, e] at hw2
  exact ⟨_, hw2, A', c', rfl, rfl, hw2.ownF mem0⟩
theorem sumF_step {p : Order → Bool} {l : List Order} {k : Nat} {x : Order} (hx : l[k]? = some x) : sumL ((l.take (k + 1)).filter p) = sumL ((l.take k).filter p) + if p x then x.left else 0 := by
  rw [List.take_add_one, hx, List.filter_append, sumL_append]
  cases h : p x <;> simp [h, sumL]
theorem sumF_bd {p : Order → Bool} {l : List Order} (h : ∀ o ∈ l, 1 ≤ o.left ∧ o.left ≤ 1000000) (hl : l.length ≤ 64) (k : Nat) : 0 ≤ sumL ((l.take k).filter p) ∧ sumL ((l.take k).filter p) ≤ 64000000 := by
  have h1 := sumL_bd (l := (l.take k).filter p) (fun o ho => h o (List.mem_of_mem_take (List.mem_filter.1 ho).1))
  have h2 := List.length_filter_le p (l.take k)
  have h3 : (l.take k).length ≤ 64 := by simp; omega
  omega
theorem meets_mem {how : Int} {o : Order} {l : List Order} {x : Order} (h : x ∈ meetsO how o l) : x ∈ l ∧ x.side = otherB o.side := sideO_side ((List.takeWhile_prefix _).subset h)
theorem meets_len (how : Int) (o : Order) (l : List Order) : (meetsO how o l).length ≤ l.length := Nat.le_trans (List.takeWhile_prefix _).length_le (sideO_len _ _)
set_option maxHeartbeats 1000000 in
theorem cross_Would (W : World) (p : Nat) (A : Option Addr) (c : Nat) (l : List Order) (o : Order) (how : Int) (hB : BookB l) :
    QSpec Tryz.prog W 210 [.pointer (some ⟨p, 0, none⟩), .agg o.enc.toArray, .int .i64 how] (bookTab p A c l []) (.int .i64 (wouldV how o l)) := by
  refine QSpec.ofD (fun h' hs => ?_)
  have m1 := hs _ mem0
  have m2 := hs _ mem1
  have hI := side_Is W o.side
  refine spec_body Tryz.func210 rfl rfl Tryz.results210 Tryz.ntmps210 rfl rfl ?_
  cases hb : isB o.side
  · rw [hb] at hI
    repeat' (first | apply aw_seq | apply aw_region | apply aw_ret | apply es_nil | apply es_pure hT; iterate 4 exact rfl | (apply es_callQ (hs := (hI.mono (by simp))); iterate 7 exact rfl) | (apply es_load; (iterate 5 exact rfl); first | (apply ld_blk hT; exact rfl; exact rfl; (repeat (first | exact mcs )); exact rfl; exact rfl) ) | apply es_box; (iterate 5 exact rfl); intro _ | apply aw_condT; iterate 2 exact rfl)
    apply ret1; exact rfl
    exact ⟨by simp [wouldV, hb], by (repeat (first | exact dt_end | apply dt_skip))⟩
  rw [hb] at hI
  have hv : wouldV how o l = max (min (sumL (othersOf o (meetsO how o l))) o.left) 0 := by simp [wouldV, hb]
  rw [hv]
  have hM := fun h m1 m2 => cross_meets W h p A c l o how hB m1 m2
  have hml := meets_len how o l
  have hbl := hB.len
  have hlf : ∀ x ∈ meetsO how o l, 1 ≤ x.left ∧ x.left ≤ 1000000 := fun x hx => hB.left x (meets_mem hx).1
  generalize meetsO how o l = ms at hM hml hlf ⊢
  unfold othersOf
  repeat' (first | apply aw_seq | apply aw_region | apply aw_skip | apply aw_block | apply es_nil | apply es_pure hT; iterate 4 exact rfl | apply es_box; (iterate 5 exact rfl); intro g4 | (apply es_callQ (hs := (hI.mono (by simp))); iterate 7 exact rfl) | apply es_call (hs := (hM _ (.tail _ m1) (.tail _ m2))); (iterate 7 exact rfl); rintro _ _ ⟨AM, cM, rfl, rfl, hfM⟩ | (apply es_load; (iterate 5 exact rfl); first | (apply ld_blk hT; exact rfl; exact rfl; (repeat (first | exact mcs )); exact rfl; exact rfl) | (apply ld_all hT; exact rfl; exact rfl; (repeat (first | exact mcs )); exact rfl)) | apply aw_condF; iterate 2 exact rfl)
  all_goals try omega
  refine aw_loopD (α := Nat) (E := fun k => [(4, .pointer (some ⟨g4, 0, none⟩)), (7, .int .i64 (sumL ((ms.take k).filter fun x => !(x.owner == o.owner)))), (17, .slice AM ms.length cM), (18, .int .i64 ms.length), (19, .int .i64 k)])
    (H := fun k => .own AM ms.length cM 52 6 (ms.flatMap Order.enc) :: .blk g4 52 o.enc :: h') (μ := fun k => ms.length - k)
    (S := fun k => k ≤ ms.length) 0 (Nat.zero_le _) ⟨rfl, rfl, rfl, rfl, rfl, trivial⟩ (by (repeat (first | exact dt_end))) ?_
  intro k hk
  have hbd := sumF_bd (p := fun x => !(x.owner == o.owner)) hlf (by omega) k
  by_cases hlt : k < ms.length
  · obtain ⟨x, hx⟩ : ∃ x, ms[k]? = some x := ⟨ms[k]'(by omega), List.getElem?_eq_getElem (by omega)⟩
    have hx2 : ms[(k : Int).toNat]? = some x := by simpa using hx
    have hA := hfM.some_ (by omega)
    have hd1 : decide ((k : Int) < (ms.length : Int)) = true := by simp; omega
    have hst := sumF_step (p := fun x => !(x.owner == o.owner)) hx
    have hxl := hlf x (List.mem_of_getElem? hx)
    generalize sumL ((ms.take k).filter fun x => !(x.owner == o.owner)) = m at hbd hst ⊢
    by_cases how1 : x.owner = o.owner
    · rw [if_neg (by simp [how1]), Int.add_zero] at hst
      repeat' (first | apply aw_seq | apply aw_region | apply aw_skip | apply aw_block | apply es_nil | apply es_pure hT; iterate 4 exact rfl | (apply es_i64 hT; (iterate 4 exact rfl); (iterate 2 (first | omega ))) | apply es_idx hT; (iterate 8 exact rfl); (iterate 2 omega); exact hA | apply es_load; (iterate 5 exact rfl); exact ld_elem hT rfl rfl (hfM.reads mem0) Order.enc_len rfl hx2 rfl | (apply es_alloc hT; (iterate 5 exact rfl); first | (fail_if_success (have q := g9)); intro g9) | (apply es_store hT; (iterate 6 exact rfl); (repeat (first | exact sel0 )); (iterate 3 exact rfl); exact nle rfl) | (apply es_load; (iterate 5 exact rfl); first | (apply ld_blk hT; exact rfl; exact rfl; (repeat (first | exact mcs | apply mcm)); exact rfl; exact rfl) ) | (apply aw_cond; exact rfl; all_goals (intro hb; (try dsimp only at hb); (try simp only [hb]); (first | replace hb := odt hb | replace hb := odf hb | replace hb := bne_t hb | replace hb := bne_f hb ); (try omega))))
      all_goals first
        | (exfalso; omega)
        | exact loopq_end (k + 1) (by (try dsimp only); omega) (by (try dsimp only); omega) ⟨rfl, by (try dsimp only); rw [hst]; rfl, rfl, rfl, rfl, trivial⟩ (dt_skip dt_end)
        | (apply blockq_n; exact loopq_end (k + 1) (by (try dsimp only); omega) (by (try dsimp only); omega) ⟨rfl, by (try dsimp only); rw [hst]; rfl, rfl, rfl, rfl, trivial⟩ (dt_skip dt_end))
        | skip
    · rw [if_pos (by simp [how1])] at hst
      repeat' (first | apply aw_seq | apply aw_region | apply aw_skip | apply aw_block | apply es_nil | apply es_pure hT; iterate 4 exact rfl | (apply es_i64 hT; (iterate 4 exact rfl); (iterate 2 (first | omega ))) | apply es_idx hT; (iterate 8 exact rfl); (iterate 2 omega); exact hA | apply es_load; (iterate 5 exact rfl); exact ld_elem hT rfl rfl (hfM.reads mem0) Order.enc_len rfl hx2 rfl | (apply es_alloc hT; (iterate 5 exact rfl); first | (fail_if_success (have q := g9)); intro g9) | (apply es_store hT; (iterate 6 exact rfl); (repeat (first | exact sel0 )); (iterate 3 exact rfl); exact nle rfl) | (apply es_load; (iterate 5 exact rfl); first | (apply ld_blk hT; exact rfl; exact rfl; (repeat (first | exact mcs | apply mcm)); exact rfl; exact rfl) ) | (apply aw_cond; exact rfl; all_goals (intro hb; (try dsimp only at hb); (try simp only [hb]); (first | replace hb := odt hb | replace hb := odf hb | replace hb := bne_t hb | replace hb := bne_f hb ); (try omega))))
      all_goals first
        | (exfalso; omega)
        | exact loopq_end (k + 1) (by (try dsimp only); omega) (by (try dsimp only); omega) ⟨rfl, by (try dsimp only); rw [hst]; rfl, rfl, rfl, rfl, trivial⟩ (dt_skip dt_end)
        | (apply blockq_n; exact loopq_end (k + 1) (by (try dsimp only); omega) (by (try dsimp only); omega) ⟨rfl, by (try dsimp only); rw [hst]; rfl, rfl, rfl, rfl, trivial⟩ (dt_skip dt_end))
        | skip
  · obtain rfl : k = ms.length := by omega
    have hd1 : decide ((ms.length : Int) < (ms.length : Int)) = false := by simp
    rw [List.take_length]
    repeat' (first | apply aw_seq | apply aw_region | apply aw_ret | apply aw_exit | apply es_nil | apply es_pure hT; iterate 4 exact rfl | apply es_min; iterate 5 exact rfl | apply es_max; iterate 5 exact rfl | (apply es_load; (iterate 5 exact rfl); first | (apply ld_blk hT; exact rfl; exact rfl; (repeat (first | exact mcs | apply mcm)); exact rfl; exact rfl) ) | (apply aw_cond; exact rfl; all_goals (intro hb; (try dsimp only at hb); (try simp only [hb]); (first | replace hb := odt hb | replace hb := odf hb ); (try omega))))
    all_goals first
      | (exfalso; omega)
      | (apply ret1; exact rfl; exact ⟨rfl, by (repeat (first | exact dt_end | apply dt_skip))⟩)
      | skip
theorem cross_isNew1 (W : World) (o x : Order) (g1 : Nat) : QSpec Tryz.prog W 222 [.agg x.enc.toArray, .pointer (some ⟨g1, 0, none⟩)] [.blk g1 52 o.enc] (.bool (clashO o x)) := by
  refine QSpec.ofD (fun h' hs => ?_)
  have m1 := hs _ mem0
  refine spec_body Tryz.func222 rfl rfl Tryz.results222 Tryz.ntmps222 rfl rfl ?_
  repeat' (first | apply aw_seq | apply aw_region | apply aw_ret | apply es_nil | apply es_pure hT; iterate 4 exact rfl | apply es_skip; iterate 3 exact rfl | (apply es_load; (iterate 5 exact rfl); first | (apply ld_blk hT; exact rfl; exact rfl; (repeat (first | exact mcs | exact m1 | apply mcm)); exact rfl; exact rfl) ) | apply es_box; (iterate 5 exact rfl); intro _ | (apply es_case; exact rfl; all_goals (intro hb; (fail_if_success (change true = true at hb)); (fail_if_success (change false = false at hb)); (try dsimp only at hb); (try simp only [hb]); (first | replace hb := odt hb | replace hb := odf hb ); (try omega))))
  all_goals
    apply ret1; exact rfl
    refine ⟨?_, by (repeat (first | exact dt_end | apply dt_skip))⟩
    simp [clashO, *]
theorem cross_stays (W : World) (how : Int) : QSpec Tryz.prog W 196 [.int .i64 how] [] (.bool (staysB how)) := by
  refine QSpec.ofD (fun h' hs => ?_)
  refine spec_body Tryz.func196 rfl rfl Tryz.results196 Tryz.ntmps196 rfl rfl ?_
  repeat' (first | apply aw_seq | apply aw_region | apply aw_ret | apply es_nil | apply es_pure hT; iterate 4 exact rfl | apply es_skip; iterate 3 exact rfl | (apply es_case; exact rfl; all_goals (intro hb; (fail_if_success (change true = true at hb)); (fail_if_success (change false = false at hb)); (try dsimp only at hb); (try simp only [hb]); (first | replace hb := odt hb | replace hb := odf hb ); (try omega))))
  all_goals
    apply ret1; exact rfl
    refine ⟨?_, by (repeat (first | exact dt_end))⟩
    simp [staysB, *]
theorem clash_side {o : Order} {l : List Order} (hB : BookB l) : idxOf (clashO o) l < 0 ↔ idxOf (clashO o) (sideO 1 l) < 0 ∧ idxOf (clashO o) (sideO 2 l) < 0 := by
  rw [idxOf_neg', idxOf_neg', idxOf_neg']
  refine ⟨fun h => ⟨fun x hx => h x (sideO_side hx).1, fun x hx => h x (sideO_side hx).1⟩, fun ⟨h1, h2⟩ x hx => ?_⟩
  have hm : ∀ s, x.side = s → x ∈ sideO s l := fun s e => (sideO_perm s l).mem_iff.2 (List.mem_filter.2 ⟨hx, by simp [isSide, e]⟩)
  rcases isB_two (hB.side x hx) with e | e
  · exact h1 x (hm 1 e)
  · exact h2 x (hm 2 e)
theorem clash_as (how : Int) (o : Order) : clashO (asX how o) = clashO o := by
  funext x; unfold clashO asX; split <;> rfl
theorem addOE_nil (o : Order) : addOE o [] = if okO o then 0 else 1 := by
  unfold addOE
  cases h : okO o <;> simp [idxOf]
set_option maxHeartbeats 2000000 in
theorem cross_isNew (W : World) (p : Nat) (A : Option Addr) (c : Nat) (l : List Order) (o : Order) (how : Int) (hB : BookB l) :
    QSpec Tryz.prog W 208 [.pointer (some ⟨p, 0, none⟩), .agg o.enc.toArray, .int .i64 how] (bookTab p A c l []) (.bool (newB how o l)) := by
  refine QSpec.ofD (fun h' hs => ?_)
  have m1 := hs _ mem0
  have m2 := hs _ mem1
  refine spec_body Tryz.func208 rfl rfl Tryz.results208 Tryz.ntmps208 rfl rfl ?_
  by_cases h1 : how < 0 ∨ how > 4
  · have hv : newB how o l = false := by
      unfold newB
      rcases h1 with h | h
      · rw [show decide (0 ≤ how) = false by simp; omega]; rfl
      · rw [show decide (how ≤ 4) = false by simp; omega]; simp
    rw [hv]
    repeat' (first | apply aw_seq | apply aw_region | apply aw_ret | apply es_nil | apply es_pure hT; iterate 4 exact rfl | apply es_skip; iterate 3 exact rfl | apply es_box; (iterate 5 exact rfl); intro _ | apply aw_condT; iterate 2 exact rfl | (apply es_case; exact rfl; all_goals (intro hb; (fail_if_success (change true = true at hb)); (fail_if_success (change false = false at hb)); (try dsimp only at hb); (try simp only [hb]); (first | replace hb := odt hb | replace hb := odf hb ); (try omega))) | (apply aw_cond; exact rfl; all_goals (intro hb; (try dsimp only at hb); (try simp only [hb]); (first | replace hb := odt hb | replace hb := odf hb ); (try omega))))
    all_goals first
      | (exfalso; omega)
      | (apply ret1; exact rfl; exact ⟨rfl, by (repeat (first | exact dt_end | apply dt_skip))⟩)
  by_cases h2 : how = 4 ∧ o.price ≠ 0
  · have hv : newB how o l = false := by
      unfold newB
      have e : (!(how == 4 && !(o.price == 0))) = false := by simp [h2.1, h2.2]
      rw [e]; simp
    rw [hv]
    repeat' (first | apply aw_seq | apply aw_region | apply aw_ret | apply aw_skip | apply es_nil | apply es_pure hT; iterate 4 exact rfl | (apply es_load; (iterate 5 exact rfl); first | (apply ld_blk hT; exact rfl; exact rfl; (repeat (first | exact mcs )); exact rfl; exact rfl) ) | apply es_box; (iterate 5 exact rfl); intro _ | (apply es_case; exact rfl; all_goals (intro hb; (fail_if_success (change true = true at hb)); (fail_if_success (change false = false at hb)); (try dsimp only at hb); (try simp only [hb]); (first | replace hb := odt hb | replace hb := odf hb ); (try omega))) | (apply aw_cond; exact rfl; all_goals (intro hb; (try dsimp only at hb); (try simp only [hb]); (first | replace hb := odt hb | replace hb := odf hb | replace hb := bne_t hb | replace hb := bne_f hb ); (try omega))))
    all_goals first
      | (exfalso; omega)
      | (apply ret1; exact rfl; exact ⟨rfl, by (repeat (first | exact dt_end | apply dt_skip))⟩)
  have hv : newB how o l = (okO (asX how o) && decide (idxOf (clashO (asX how o)) l < 0)) := by
    unfold newB
    rw [show decide (0 ≤ how) = true by simp; omega, show decide (how ≤ 4) = true by simp; omega, show (!(how == 4 && !(o.price == 0))) = true by simp; omega, clash_as]
    simp
  rw [hv]
  have hS := fun s h m1 m2 => book_Side W h p A c l s m1 m2 hB.le hB.seq hB.side
  have hs1 := sideO_len 1 l
  have hs2 := sideO_len 2 l
  have hbl := hB.len
  have hcl := clash_side (o := asX how o) hB
  have hct : ∀ (o' : Order) (s : Int) h g1 A2 c2, (sideO s l).length ≤ 1000000 → OwnF A2 (sideO s l).length c2 6 ((sideO s l).flatMap Order.enc) → Chunk.own A2 (sideO s l).length c2 52 6 ((sideO s l).flatMap Order.enc) ∈ h → Chunk.blk g1 52 o'.enc ∈ h → QSpec Tryz.prog W 214 [.slice A2 (sideO s l).length c2, .func (.func 222) #[] #[.pointer (some ⟨g1, 0, none⟩)]] h (.bool (decide (idxOf (clashO o') (sideO s l) ≥ 0))) := fun o' s h g1 A2 c2 hle hf n1 n2 =>
    containsFuncOrder W h A2 _ c2 (sideO s l) rfl (hf.reads n1) _ [_] (clashO o') (fun x _ => (cross_isNew1 W o' x g1).mono (keep1 n2)) (by omega)
  have hadd := fun p A c h => book_Add W h p A c [] (asX how o) (by simp)
  rw [addOE_nil] at hadd
  by_cases h4 : how = 4
  · have has : asX how o = { o with price := 1 } := by unfold asX; rw [if_pos h4]
    rw [has] at hcl hadd ⊢
    repeat' (first | apply aw_seq | apply aw_region | apply aw_skip | apply aw_block | apply es_nil | apply es_pure hT; iterate 4 exact rfl | apply es_box; (iterate 5 exact rfl); intro g4 | (apply es_store hT; (iterate 6 exact rfl); (repeat (first | exact sel0 )); (iterate 3 exact rfl); exact nle rfl) | apply es_buildSlice hT; (iterate 12 exact rfl); intro g25 | (apply es_load; (iterate 5 exact rfl); first | (apply ld_blk hT; exact rfl; exact rfl; (repeat (first | exact mcs )); exact rfl; exact rfl) ) | (apply es_case; exact rfl; all_goals (intro hb; (fail_if_success (change true = true at hb)); (fail_if_success (change false = false at hb)); (try dsimp only at hb); (try simp only [hb]); (first | replace hb := odt hb | replace hb := odf hb ); (try omega))) | (apply aw_cond; exact rfl; all_goals (intro hb; (try dsimp only at hb); (try simp only [hb]); (first | replace hb := odt hb | replace hb := odf hb | replace hb := bne_t hb | replace hb := bne_f hb ); (try omega))))
    all_goals try omega
    refine aw_loopD (α := Nat) (E := fun k => [(0, .pointer (some ⟨p, 0, none⟩)), (4, .pointer (some ⟨g4, 0, none⟩)), (25, .slice (some ⟨g25, 0, none⟩) 2 2), (26, .int .i64 2), (27, .int .i64 k)])
      (H := fun k => .own (some ⟨g25, 0, none⟩) 2 2 3 1 [.int .i64 1, .int .i64 2] :: .blk g4 52 (Order.enc { o with price := 1 }) :: h') (μ := fun k => 2 - k)
      (S := fun k => k ≤ 2 ∧ (1 ≤ k → idxOf (clashO { o with price := 1 }) (sideO 1 l) < 0) ∧ (2 ≤ k → idxOf (clashO { o with price := 1 }) (sideO 2 l) < 0)) 0 ⟨by omega, fun h => by omega, fun h => by omega⟩ ⟨rfl, rfl, rfl, rfl, rfl, trivial⟩ (by (repeat (first | exact dt_end))) ?_
    rintro k ⟨hk, hk1, hk2⟩
    have hrd : Reads W (.own (some ⟨g25, 0, none⟩) 2 2 3 1 [.int .i64 1, .int .i64 2] :: .blk g4 52 (Order.enc { o with price := 1 }) :: h') (some ⟨g25, 0, none⟩) 2 1 [.int .i64 1, .int .i64 2] := Reads.own mem0 rfl (List.all_eq_true.1 (rfl : ([.int .i64 1, .int .i64 2] : List Value).all Value.oneCell' = true))
    rcases (show k = 0 ∨ k = 1 ∨ k = 2 by omega) with rfl | rfl | rfl
    · have hd1 : decide (((0 : Nat) : Int) < 2) = true := by decide
      have hx2 : ([.int .i64 1, .int .i64 2] : List Value)[((0 : Nat) : Int).toNat * 1]? = some (.int .i64 1) := rfl
      rcases Int.lt_or_le (idxOf (clashO { o with price := 1 }) (sideO 1 l)) 0 with hn | hn
      · have hct1 := hct { o with price := 1 } 1
        rw [show decide (idxOf (clashO { o with price := 1 }) (sideO 1 l) ≥ 0) = false by simp; omega] at hct1
        repeat' (first | apply aw_seq | apply aw_region | apply aw_skip | apply aw_block | apply es_nil | apply es_pure hT; iterate 4 exact rfl | (apply es_i64 hT; (iterate 4 exact rfl); (iterate 2 (first | omega ))) | apply es_idx hT; (iterate 8 exact rfl); (iterate 2 omega); exact rfl | apply es_load; (iterate 5 exact rfl); exact ld_row hT rfl rfl hrd rfl hx2 | apply es_call (hs := (hS 1 _ (.tail _ (.tail _ m1)) (.tail _ (.tail _ m2)))); (iterate 7 exact rfl); rintro _ _ ⟨AS, cS, rfl, rfl, hfS⟩ | (apply es_callQ (hs := (hct1 _ _ _ _ (by omega) hfS (by (repeat (first | exact mcs ))) (by (repeat (first | exact mcs | apply mcm))))); iterate 7 exact rfl) | apply aw_condT; iterate 2 exact rfl | apply aw_condF; iterate 2 exact rfl)
        all_goals first
          | (exfalso; omega)
          | exact loopq_end 1 (by decide) ⟨by omega, fun _ => hn, fun h => absurd h (by decide)⟩ ⟨rfl, rfl, rfl, rfl, rfl, trivial⟩ (by (repeat (first | exact dt_end | (apply dt_cons; · (repeat (first | exact sel0 | apply selS))) | apply dt_skip)))
          | (apply blockq_n; exact loopq_end 1 (by decide) ⟨by omega, fun _ => hn, fun h => absurd h (by decide)⟩ ⟨rfl, rfl, rfl, rfl, rfl, trivial⟩ (by (repeat (first | exact dt_end | (apply dt_cons; · (repeat (first | exact sel0 | apply selS))) | apply dt_skip))))
          | skip
      · have hct1 := hct { o with price := 1 } 1
        rw [show decide (idxOf (clashO { o with price := 1 }) (sideO 1 l) ≥ 0) = true by simp; omega] at hct1
        repeat' (first | apply aw_seq | apply aw_region | apply aw_ret | apply aw_skip | apply aw_block | apply es_nil | apply es_pure hT; iterate 4 exact rfl | apply es_idx hT; (iterate 8 exact rfl); (iterate 2 omega); exact rfl | apply es_load; (iterate 5 exact rfl); exact ld_row hT rfl rfl hrd rfl hx2 | apply es_call (hs := (hS 1 _ (.tail _ (.tail _ m1)) (.tail _ (.tail _ m2)))); (iterate 7 exact rfl); rintro _ _ ⟨AS, cS, rfl, rfl, hfS⟩ | (apply es_callQ (hs := (hct1 _ _ _ _ (by omega) hfS (by (repeat (first | exact mcs ))) (by (repeat (first | exact mcs | apply mcm))))); iterate 7 exact rfl) | apply aw_condT; iterate 2 exact rfl)
        all_goals first
          | (exfalso; omega)
          | (apply ret1; exact rfl
             refine ⟨?_, by (repeat (first | exact dt_end | apply dt_skip))⟩
             rw [show decide (idxOf (clashO { o with price := 1 }) l < 0) = false by rw [decide_eq_false_iff_not, hcl]; omega, Bool.and_false])
          | skip
    · have hd1 : decide (((1 : Nat) : Int) < 2) = true := by decide
      have hx2 : ([.int .i64 1, .int .i64 2] : List Value)[((1 : Nat) : Int).toNat * 1]? = some (.int .i64 2) := rfl
      rcases Int.lt_or_le (idxOf (clashO { o with price := 1 }) (sideO 2 l)) 0 with hn | hn
      · have hct1 := hct { o with price := 1 } 2
        rw [show decide (idxOf (clashO { o with price := 1 }) (sideO 2 l) ≥ 0) = false by simp; omega] at hct1
        repeat' (first | apply aw_seq | apply aw_region | apply aw_skip | apply aw_block | apply es_nil | apply es_pure hT; iterate 4 exact rfl | (apply es_i64 hT; (iterate 4 exact rfl); (iterate 2 (first | omega ))) | apply es_idx hT; (iterate 8 exact rfl); (iterate 2 omega); exact rfl | apply es_load; (iterate 5 exact rfl); exact ld_row hT rfl rfl hrd rfl hx2 | apply es_call (hs := (hS 2 _ (.tail _ (.tail _ m1)) (.tail _ (.tail _ m2)))); (iterate 7 exact rfl); rintro _ _ ⟨AS, cS, rfl, rfl, hfS⟩ | (apply es_callQ (hs := (hct1 _ _ _ _ (by omega) hfS (by (repeat (first | exact mcs ))) (by (repeat (first | exact mcs | apply mcm))))); iterate 7 exact rfl) | apply aw_condT; iterate 2 exact rfl | apply aw_condF; iterate 2 exact rfl)
        all_goals first
          | (exfalso; omega)
          | exact loopq_end 2 (by decide) ⟨by omega, fun _ => hk1 (by decide), fun _ => hn⟩ ⟨rfl, rfl, rfl, rfl, rfl, trivial⟩ (by (repeat (first | exact dt_end | (apply dt_cons; · (repeat (first | exact sel0 | apply selS))) | apply dt_skip)))
          | (apply blockq_n; exact loopq_end 2 (by decide) ⟨by omega, fun _ => hk1 (by decide), fun _ => hn⟩ ⟨rfl, rfl, rfl, rfl, rfl, trivial⟩ (by (repeat (first | exact dt_end | (apply dt_cons; · (repeat (first | exact sel0 | apply selS))) | apply dt_skip))))
          | skip
      · have hct1 := hct { o with price := 1 } 2
        rw [show decide (idxOf (clashO { o with price := 1 }) (sideO 2 l) ≥ 0) = true by simp; omega] at hct1
        repeat' (first | apply aw_seq | apply aw_region | apply aw_ret | apply aw_skip | apply aw_block | apply es_nil | apply es_pure hT; iterate 4 exact rfl | apply es_idx hT; (iterate 8 exact rfl); (iterate 2 omega); exact rfl | apply es_load; (iterate 5 exact rfl); exact ld_row hT rfl rfl hrd rfl hx2 | apply es_call (hs := (hS 2 _ (.tail _ (.tail _ m1)) (.tail _ (.tail _ m2)))); (iterate 7 exact rfl); rintro _ _ ⟨AS, cS, rfl, rfl, hfS⟩ | (apply es_callQ (hs := (hct1 _ _ _ _ (by omega) hfS (by (repeat (first | exact mcs ))) (by (repeat (first | exact mcs | apply mcm))))); iterate 7 exact rfl) | apply aw_condT; iterate 2 exact rfl)
        all_goals first
          | (exfalso; omega)
          | (apply ret1; exact rfl
             refine ⟨?_, by (repeat (first | exact dt_end | apply dt_skip))⟩
             rw [show decide (idxOf (clashO { o with price := 1 }) l < 0) = false by rw [decide_eq_false_iff_not, hcl]; omega, Bool.and_false])
          | skip
    · have hd1 : decide (((2 : Nat) : Int) < 2) = false := by decide
      have hall := hcl.2 ⟨hk1 (by decide), hk2 (by decide)⟩
      rw [decide_eq_true hall, Bool.and_true]
      cases hok : okO { o with price := 1 }
      · rw [hok] at hadd
        repeat' (first | apply aw_seq | apply aw_region | apply aw_ret | apply aw_exit | apply es_nil | apply es_pure hT; iterate 4 exact rfl | (apply aw_treeH [.blk g4 52 (Order.enc { o with price := 1 })] [] [38, 197] (.step 1 <| .step 0 <| .step 2 <| .step 3 <| .step 4 <| .nil) hmix; decide +kernel) | apply ep_nil | apply ep_step; exact rfl | (apply es_callG (hs := (book_New W _)); (iterate 7 exact rfl); (rintro _ _ ⟨pn, An, cn, rfl, rfl⟩; refine ⟨by (apply keep1; (repeat (first | exact mcs | apply mcm))), ?_⟩)) | (apply es_callG (hs := (hadd _ _ _ _)); (iterate 7 exact rfl); (rintro _ _ ⟨rfl, An2, cn2, rfl⟩; refine ⟨by (apply keep1; (repeat (first | exact mcs | apply mcm))), ?_⟩)) | ((first | (apply es_loadL; (iterate 5 exact rfl); first | (apply keep1; (repeat (first | exact mcs | apply mcm))))); first | (apply ld_all hT; exact rfl; exact rfl; (repeat (first | exact mcs )); exact rfl)) | apply aw_condF; iterate 2 exact rfl)
        all_goals first
          | (exfalso; omega)
          | (apply ret1; exact rfl; exact ⟨rfl, by (repeat (first | exact dt_end | apply dt_skip))⟩)
          | skip
      · rw [hok] at hadd
        repeat' (first | apply aw_seq | apply aw_region | apply aw_ret | apply aw_exit | apply es_nil | apply es_pure hT; iterate 4 exact rfl | (apply aw_treeH [.blk g4 52 (Order.enc { o with price := 1 })] [] [38, 197] (.step 1 <| .step 0 <| .step 2 <| .step 3 <| .step 4 <| .nil) hmix; decide +kernel) | apply ep_nil | apply ep_step; exact rfl | (apply es_callG (hs := (book_New W _)); (iterate 7 exact rfl); (rintro _ _ ⟨pn, An, cn, rfl, rfl⟩; refine ⟨by (apply keep1; (repeat (first | exact mcs | apply mcm))), ?_⟩)) | (apply es_callG (hs := (hadd _ _ _ _)); (iterate 7 exact rfl); (rintro _ _ ⟨rfl, An2, cn2, rfl⟩; refine ⟨by (apply keep1; (repeat (first | exact mcs | apply mcm))), ?_⟩)) | ((first | (apply es_loadL; (iterate 5 exact rfl); first | (apply keep1; (repeat (first | exact mcs | apply mcm))))); first | (apply ld_all hT; exact rfl; exact rfl; (repeat (first | exact mcs )); exact rfl)) | apply aw_condF; iterate 2 exact rfl)
        all_goals first
          | (exfalso; omega)
          | (apply ret1; exact rfl; exact ⟨rfl, by (repeat (first | exact dt_end | apply dt_skip))⟩)
          | skip
  · have has : asX how o = o := by unfold asX; rw [if_neg h4]
    rw [has] at hcl hadd ⊢
    repeat' (first | apply aw_seq | apply aw_region | apply aw_skip | apply aw_block | apply es_nil | apply es_pure hT; iterate 4 exact rfl | apply es_box; (iterate 5 exact rfl); intro g4 | apply es_buildSlice hT; (iterate 12 exact rfl); intro g25 | (apply es_case; exact rfl; all_goals (intro hb; (fail_if_success (change true = true at hb)); (fail_if_success (change false = false at hb)); (try dsimp only at hb); (try simp only [hb]); (first | replace hb := odt hb | replace hb := odf hb ); (try omega))) | (apply aw_cond; exact rfl; all_goals (intro hb; (try dsimp only at hb); (try simp only [hb]); (first | replace hb := odt hb | replace hb := odf hb ); (try omega))))
    all_goals try omega
    refine aw_loopD (α := Nat) (E := fun k => [(0, .pointer (some ⟨p, 0, none⟩)), (4, .pointer (some ⟨g4, 0, none⟩)), (25, .slice (some ⟨g25, 0, none⟩) 2 2), (26, .int .i64 2), (27, .int .i64 k)])
      (H := fun k => .own (some ⟨g25, 0, none⟩) 2 2 3 1 [.int .i64 1, .int .i64 2] :: .blk g4 52 (Order.enc o) :: h') (μ := fun k => 2 - k)
      (S := fun k => k ≤ 2 ∧ (1 ≤ k → idxOf (clashO o) (sideO 1 l) < 0) ∧ (2 ≤ k → idxOf (clashO o) (sideO 2 l) < 0)) 0 ⟨by omega, fun h => by omega, fun h => by omega⟩ ⟨rfl, rfl, rfl, rfl, rfl, trivial⟩ (by (repeat (first | exact dt_end))) ?_
    rintro k ⟨hk, hk1, hk2⟩
    have hrd : Reads W (.own (some ⟨g25, 0, none⟩) 2 2 3 1 [.int .i64 1, .int .i64 2] :: .blk g4 52 (Order.enc o) :: h') (some ⟨g25, 0, none⟩) 2 1 [.int .i64 1, .int .i64 2] := Reads.own mem0 rfl (List.all_eq_true.1 (rfl : ([.int .i64 1, .int .i64 2] : List Value).all Value.oneCell' = true))
    rcases (show k = 0 ∨ k = 1 ∨ k = 2 by omega) with rfl | rfl | rfl
    · have hd1 : decide (((0 : Nat) : Int) < 2) = true := by decide
      have hx2 : ([.int .i64 1, .int .i64 2] : List Value)[((0 : Nat) : Int).toNat * 1]? = some (.int .i64 1) := rfl
      rcases Int.lt_or_le (idxOf (clashO o) (sideO 1 l)) 0 with hn | hn
      · have hct1 := hct o 1
        rw [show decide (idxOf (clashO o) (sideO 1 l) ≥ 0) = false by simp; omega] at hct1
        repeat' (first | apply aw_seq | apply aw_region | apply aw_skip | apply aw_block | apply es_nil | apply es_pure hT; iterate 4 exact rfl | (apply es_i64 hT; (iterate 4 exact rfl); (iterate 2 (first | omega ))) | apply es_idx hT; (iterate 8 exact rfl); (iterate 2 omega); exact rfl | apply es_load; (iterate 5 exact rfl); exact ld_row hT rfl rfl hrd rfl hx2 | apply es_call (hs := (hS 1 _ (.tail _ (.tail _ m1)) (.tail _ (.tail _ m2)))); (iterate 7 exact rfl); rintro _ _ ⟨AS, cS, rfl, rfl, hfS⟩ | (apply es_callQ (hs := (hct1 _ _ _ _ (by omega) hfS (by (repeat (first | exact mcs ))) (by (repeat (first | exact mcs | apply mcm))))); iterate 7 exact rfl) | apply aw_condT; iterate 2 exact rfl | apply aw_condF; iterate 2 exact rfl)
        all_goals first
          | (exfalso; omega)
          | exact loopq_end 1 (by decide) ⟨by omega, fun _ => hn, fun h => absurd h (by decide)⟩ ⟨rfl, rfl, rfl, rfl, rfl, trivial⟩ (by (repeat (first | exact dt_end | (apply dt_cons; · (repeat (first | exact sel0 | apply selS))) | apply dt_skip)))
          | (apply blockq_n; exact loopq_end 1 (by decide) ⟨by omega, fun _ => hn, fun h => absurd h (by decide)⟩ ⟨rfl, rfl, rfl, rfl, rfl, trivial⟩ (by (repeat (first | exact dt_end | (apply dt_cons; · (repeat (first | exact sel0 | apply selS))) | apply dt_skip))))
          | skip
      · have hct1 := hct o 1
        rw [show decide (idxOf (clashO o) (sideO 1 l) ≥ 0) = true by simp; omega] at hct1
        repeat' (first | apply aw_seq | apply aw_region | apply aw_ret | apply aw_skip | apply aw_block | apply es_nil | apply es_pure hT; iterate 4 exact rfl | apply es_idx hT; (iterate 8 exact rfl); (iterate 2 omega); exact rfl | apply es_load; (iterate 5 exact rfl); exact ld_row hT rfl rfl hrd rfl hx2 | apply es_call (hs := (hS 1 _ (.tail _ (.tail _ m1)) (.tail _ (.tail _ m2)))); (iterate 7 exact rfl); rintro _ _ ⟨AS, cS, rfl, rfl, hfS⟩ | (apply es_callQ (hs := (hct1 _ _ _ _ (by omega) hfS (by (repeat (first | exact mcs ))) (by (repeat (first | exact mcs | apply mcm))))); iterate 7 exact rfl) | apply aw_condT; iterate 2 exact rfl)
        all_goals first
          | (exfalso; omega)
          | (apply ret1; exact rfl
             refine ⟨?_, by (repeat (first | exact dt_end | apply dt_skip))⟩
             rw [show decide (idxOf (clashO o) l < 0) = false by rw [decide_eq_false_iff_not, hcl]; omega, Bool.and_false])
          | skip
    · have hd1 : decide (((1 : Nat) : Int) < 2) = true := by decide
      have hx2 : ([.int .i64 1, .int .i64 2] : List Value)[((1 : Nat) : Int).toNat * 1]? = some (.int .i64 2) := rfl
      rcases Int.lt_or_le (idxOf (clashO o) (sideO 2 l)) 0 with hn | hn
      · have hct1 := hct o 2
        rw [show decide (idxOf (clashO o) (sideO 2 l) ≥ 0) = false by simp; omega] at hct1
        repeat' (first | apply aw_seq | apply aw_region | apply aw_skip | apply aw_block | apply es_nil | apply es_pure hT; iterate 4 exact rfl | (apply es_i64 hT; (iterate 4 exact rfl); (iterate 2 (first | omega ))) | apply es_idx hT; (iterate 8 exact rfl); (iterate 2 omega); exact rfl | apply es_load; (iterate 5 exact rfl); exact ld_row hT rfl rfl hrd rfl hx2 | apply es_call (hs := (hS 2 _ (.tail _ (.tail _ m1)) (.tail _ (.tail _ m2)))); (iterate 7 exact rfl); rintro _ _ ⟨AS, cS, rfl, rfl, hfS⟩ | (apply es_callQ (hs := (hct1 _ _ _ _ (by omega) hfS (by (repeat (first | exact mcs ))) (by (repeat (first | exact mcs | apply mcm))))); iterate 7 exact rfl) | apply aw_condT; iterate 2 exact rfl | apply aw_condF; iterate 2 exact rfl)
        all_goals first
          | (exfalso; omega)
          | exact loopq_end 2 (by decide) ⟨by omega, fun _ => hk1 (by decide), fun _ => hn⟩ ⟨rfl, rfl, rfl, rfl, rfl, trivial⟩ (by (repeat (first | exact dt_end | (apply dt_cons; · (repeat (first | exact sel0 | apply selS))) | apply dt_skip)))
          | (apply blockq_n; exact loopq_end 2 (by decide) ⟨by omega, fun _ => hk1 (by decide), fun _ => hn⟩ ⟨rfl, rfl, rfl, rfl, rfl, trivial⟩ (by (repeat (first | exact dt_end | (apply dt_cons; · (repeat (first | exact sel0 | apply selS))) | apply dt_skip))))
          | skip
      · have hct1 := hct o 2
        rw [show decide (idxOf (clashO o) (sideO 2 l) ≥ 0) = true by simp; omega] at hct1
        repeat' (first | apply aw_seq | apply aw_region | apply aw_ret | apply aw_skip | apply aw_block | apply es_nil | apply es_pure hT; iterate 4 exact rfl | apply es_idx hT; (iterate 8 exact rfl); (iterate 2 omega); exact rfl | apply es_load; (iterate 5 exact rfl); exact ld_row hT rfl rfl hrd rfl hx2 | apply es_call (hs := (hS 2 _ (.tail _ (.tail _ m1)) (.tail _ (.tail _ m2)))); (iterate 7 exact rfl); rintro _ _ ⟨AS, cS, rfl, rfl, hfS⟩ | (apply es_callQ (hs := (hct1 _ _ _ _ (by omega) hfS (by (repeat (first | exact mcs ))) (by (repeat (first | exact mcs | apply mcm))))); iterate 7 exact rfl) | apply aw_condT; iterate 2 exact rfl)
        all_goals first
          | (exfalso; omega)
          | (apply ret1; exact rfl
             refine ⟨?_, by (repeat (first | exact dt_end | apply dt_skip))⟩
             rw [show decide (idxOf (clashO o) l < 0) = false by rw [decide_eq_false_iff_not, hcl]; omega, Bool.and_false])
          | skip
    · have hd1 : decide (((2 : Nat) : Int) < 2) = false := by decide
      have hall := hcl.2 ⟨hk1 (by decide), hk2 (by decide)⟩
      rw [decide_eq_true hall, Bool.and_true]
      cases hok : okO o
      · rw [hok] at hadd
        repeat' (first | apply aw_seq | apply aw_region | apply aw_ret | apply aw_exit | apply es_nil | apply es_pure hT; iterate 4 exact rfl | (apply aw_treeH [.blk g4 52 (Order.enc o)] [] [38, 197] (.step 1 <| .step 0 <| .step 2 <| .step 3 <| .step 4 <| .nil) hmix; decide +kernel) | apply ep_nil | apply ep_step; exact rfl | (apply es_callG (hs := (book_New W _)); (iterate 7 exact rfl); (rintro _ _ ⟨pn, An, cn, rfl, rfl⟩; refine ⟨by (apply keep1; (repeat (first | exact mcs | apply mcm))), ?_⟩)) | (apply es_callG (hs := (hadd _ _ _ _)); (iterate 7 exact rfl); (rintro _ _ ⟨rfl, An2, cn2, rfl⟩; refine ⟨by (apply keep1; (repeat (first | exact mcs | apply mcm))), ?_⟩)) | ((first | (apply es_loadL; (iterate 5 exact rfl); first | (apply keep1; (repeat (first | exact mcs | apply mcm))))); first | (apply ld_all hT; exact rfl; exact rfl; (repeat (first | exact mcs )); exact rfl)) | apply aw_condF; iterate 2 exact rfl)
        all_goals first
          | (exfalso; omega)
          | (apply ret1; exact rfl; exact ⟨rfl, by (repeat (first | exact dt_end | apply dt_skip))⟩)
          | skip
      · rw [hok] at hadd
        repeat' (first | apply aw_seq | apply aw_region | apply aw_ret | apply aw_exit | apply es_nil | apply es_pure hT; iterate 4 exact rfl | (apply aw_treeH [.blk g4 52 (Order.enc o)] [] [38, 197] (.step 1 <| .step 0 <| .step 2 <| .step 3 <| .step 4 <| .nil) hmix; decide +kernel) | apply ep_nil | apply ep_step; exact rfl | (apply es_callG (hs := (book_New W _)); (iterate 7 exact rfl); (rintro _ _ ⟨pn, An, cn, rfl, rfl⟩; refine ⟨by (apply keep1; (repeat (first | exact mcs | apply mcm))), ?_⟩)) | (apply es_callG (hs := (hadd _ _ _ _)); (iterate 7 exact rfl); (rintro _ _ ⟨rfl, An2, cn2, rfl⟩; refine ⟨by (apply keep1; (repeat (first | exact mcs | apply mcm))), ?_⟩)) | ((first | (apply es_loadL; (iterate 5 exact rfl); first | (apply keep1; (repeat (first | exact mcs | apply mcm))))); first | (apply ld_all hT; exact rfl; exact rfl; (repeat (first | exact mcs )); exact rfl)) | apply aw_condF; iterate 2 exact rfl)
        all_goals first
          | (exfalso; omega)
          | (apply ret1; exact rfl; exact ⟨rfl, by (repeat (first | exact dt_end | apply dt_skip))⟩)
          | skip
set_option maxHeartbeats 2000000 in
theorem cross_wrong (W : World) (p : Nat) (A : Option Addr) (c : Nat) (l : List Order) (o : Order) (how : Int) (hB : BookB l) :
    QSpec Tryz.prog W 193 [.pointer (some ⟨p, 0, none⟩), .agg o.enc.toArray, .int .i64 how] (bookTab p A c l []) (.int .i64 (wrongV how o l)) := by
  refine QSpec.ofD (fun h' hs => ?_)
  have m1 := hs _ mem0
  have m2 := hs _ mem1
  have hN := cross_isNew W p A c l o how hB
  have hS := cross_stays W how
  have hL := book_Len W p A c l
  have hM := fun h m1 m2 => cross_meets W h p A c l o how hB m1 m2
  have hWd := cross_Would W p A c l o how hB
  refine spec_body Tryz.func193 rfl rfl Tryz.results193 Tryz.ntmps193 rfl rfl ?_
  cases hnb : newB how o l
  · have hv : wrongV how o l = 1 := by unfold wrongV; rw [if_pos hnb]
    rw [hv]
    rw [hnb] at hN
    repeat' (first | apply aw_seq | apply aw_region | apply aw_ret | apply aw_block | apply es_nil | apply es_pure hT; iterate 4 exact rfl | apply es_box; (iterate 5 exact rfl); intro g4 | apply es_callQ (hs := (hN.mono (memPairB (.tail _ m1) (.tail _ m2)))); iterate 7 exact rfl | (apply es_load; (iterate 5 exact rfl); first | (apply ld_all hT; exact rfl; exact rfl; (repeat (first | exact mcs )); exact rfl)) | apply aw_condT; iterate 2 exact rfl)
    all_goals first
      | (exfalso; omega)
      | (apply ret1; exact rfl; exact ⟨rfl, by (repeat (first | exact dt_end | apply dt_skip))⟩)
  rw [hnb] at hN
  have e0 : ¬ newB how o l = false := by rw [hnb]; decide
  by_cases h3 : staysB how = true ∧ l.length ≥ 64
  · have hv : wrongV how o l = 3 := by unfold wrongV; rw [if_neg e0, if_pos h3]
    rw [hv]
    rw [h3.1] at hS
    repeat' (first | apply aw_seq | apply aw_region | apply aw_ret | apply aw_block | apply es_nil | apply es_pure hT; iterate 4 exact rfl | apply es_box; (iterate 5 exact rfl); intro g4 | apply es_callQ (hs := (hN.mono (memPairB (.tail _ m1) (.tail _ m2)))); iterate 7 exact rfl | (apply es_callQ (hs := (hS.mono (by simp))); iterate 7 exact rfl) | apply es_callQ (hs := (hL.mono (memPairB (.tail _ m1) (.tail _ m2)))); iterate 7 exact rfl | (apply es_load; (iterate 5 exact rfl); first | (apply ld_all hT; exact rfl; exact rfl; (repeat (first | exact mcs )); exact rfl)) | apply aw_condF; iterate 2 exact rfl | (apply aw_cond; exact rfl; all_goals (intro hb; (try dsimp only at hb); (try simp only [hb]); (first | replace hb := odt hb | replace hb := odf hb ); (try omega))))
    all_goals first
      | (exfalso; omega)
      | (apply ret1; exact rfl; exact ⟨rfl, by (repeat (first | exact dt_end | apply dt_skip))⟩)
  have hst : staysB how = false ∨ (staysB how = true ∧ l.length < 64) := by
    cases h : staysB how
    · exact .inl rfl
    · refine .inr ⟨rfl, ?_⟩
      rcases Nat.lt_or_ge l.length 64 with h2 | h2
      · exact h2
      · exact absurd ⟨h, h2⟩ h3
  by_cases h16 : how = 3
  · have hs3 : staysB how = true := by rw [h16]; rfl
    have hll : l.length < 64 := by rcases hst with h | h; (rw [hs3] at h; cases h); exact h.2
    rw [hs3] at hS
    by_cases hm0 : (meetsO how o l).length > 0
    · have hv : wrongV how o l = 16 := by unfold wrongV; rw [if_neg e0, if_neg h3, if_pos ⟨h16, hm0⟩]
      rw [hv]
      generalize meetsO how o l = ms at hM hm0
      repeat' (first | apply aw_seq | apply aw_region | apply aw_ret | apply aw_block | apply es_nil | apply es_pure hT; iterate 4 exact rfl | apply es_box; (iterate 5 exact rfl); intro g4 | apply es_callQ (hs := (hN.mono (memPairB (.tail _ m1) (.tail _ m2)))); iterate 7 exact rfl | (apply es_callQ (hs := (hS.mono (by simp))); iterate 7 exact rfl) | apply es_callQ (hs := (hL.mono (memPairB (.tail _ m1) (.tail _ m2)))); iterate 7 exact rfl | apply es_call (hs := (hM _ (.tail _ m1) (.tail _ m2))); (iterate 7 exact rfl); rintro _ _ ⟨AM, cM, rfl, rfl, hfM⟩ | (apply es_load; (iterate 5 exact rfl); first | (apply ld_all hT; exact rfl; exact rfl; (repeat (first | exact mcs )); exact rfl)) | apply aw_condF; iterate 2 exact rfl | (apply es_case; exact rfl; all_goals (intro hb; (fail_if_success (change true = true at hb)); (fail_if_success (change false = false at hb)); (try dsimp only at hb); (try simp only [hb]); (first | replace hb := odt hb | replace hb := odf hb ); (try omega))) | (apply aw_cond; exact rfl; all_goals (intro hb; (try dsimp only at hb); (try simp only [hb]); (first | replace hb := odt hb | replace hb := odf hb ); (try omega))))
      all_goals first
        | (exfalso; omega)
        | (apply ret1; exact rfl; exact ⟨rfl, by (repeat (first | exact dt_end | apply dt_skip))⟩)
    · have hv : wrongV how o l = 0 := by unfold wrongV; rw [if_neg e0, if_neg h3, if_neg (fun h => hm0 h.2), if_neg (by omega)]
      rw [hv]
      generalize meetsO how o l = ms at hM hm0
      repeat' (first | apply aw_seq | apply aw_region | apply aw_ret | apply aw_skip | apply aw_block | apply es_nil | apply es_pure hT; iterate 4 exact rfl | apply es_skip; iterate 3 exact rfl | apply es_box; (iterate 5 exact rfl); intro g4 | apply es_callQ (hs := (hN.mono (memPairB (.tail _ m1) (.tail _ m2)))); iterate 7 exact rfl | (apply es_callQ (hs := (hS.mono (by simp))); iterate 7 exact rfl) | apply es_callQ (hs := (hL.mono (memPairB (.tail _ m1) (.tail _ m2)))); iterate 7 exact rfl | apply es_call (hs := (hM _ (.tail _ m1) (.tail _ m2))); (iterate 7 exact rfl); rintro _ _ ⟨AM, cM, rfl, rfl, hfM⟩ | apply aw_draw [210] [] hmix; decide +kernel | (apply es_load; (iterate 5 exact rfl); first | (apply ld_all hT; exact rfl; exact rfl; (repeat (first | exact mcs )); exact rfl)) | apply aw_condF; iterate 2 exact rfl | (apply es_case; exact rfl; all_goals (intro hb; (fail_if_success (change true = true at hb)); (fail_if_success (change false = false at hb)); (try dsimp only at hb); (try simp only [hb]); (first | replace hb := odt hb | replace hb := odf hb ); (try omega))) | (apply aw_cond; exact rfl; all_goals (intro hb; (try dsimp only at hb); (try simp only [hb]); (first | replace hb := odt hb | replace hb := odf hb ); (try omega))))
      all_goals first
        | (exfalso; omega)
        | (apply ret1; exact rfl; exact ⟨rfl, by (repeat (first | exact dt_end | apply dt_skip))⟩)
  by_cases h17 : how = 2
  · have hs2 : staysB how = false := by rw [h17]; rfl
    rw [hs2] at hS
    by_cases hw0 : wouldV how o l < o.left
    · have hv : wrongV how o l = 17 := by unfold wrongV; rw [if_neg e0, if_neg h3, if_neg (fun h => h16 h.1), if_pos ⟨h17, hw0⟩]
      rw [hv]
      generalize wouldV how o l = wv at hWd hw0
      repeat' (first | apply aw_seq | apply aw_region | apply aw_ret | apply aw_block | apply es_nil | apply es_pure hT; iterate 4 exact rfl | apply es_skip; iterate 3 exact rfl | apply es_box; (iterate 5 exact rfl); intro g4 | apply es_callQ (hs := (hN.mono (memPairB (.tail _ m1) (.tail _ m2)))); iterate 7 exact rfl | (apply es_callQ (hs := (hS.mono (by simp))); iterate 7 exact rfl) | apply aw_draw [210] [] hmix; decide +kernel | apply es_callQ (hs := (hWd.mono (memPairB (.tail _ m1) (.tail _ m2)))); iterate 7 exact rfl | (apply es_load; (iterate 5 exact rfl); first | (apply ld_blk hT; exact rfl; exact rfl; (repeat (first | exact mcs )); exact rfl; exact rfl) | (apply ld_all hT; exact rfl; exact rfl; (repeat (first | exact mcs )); exact rfl)) | apply aw_condF; iterate 2 exact rfl | (apply es_case; exact rfl; all_goals (intro hb; (fail_if_success (change true = true at hb)); (fail_if_success (change false = false at hb)); (try dsimp only at hb); (try simp only [hb]); (first | replace hb := odt hb | replace hb := odf hb ); (try omega))) | (apply aw_cond; exact rfl; all_goals (intro hb; (try dsimp only at hb); (try simp only [hb]); (first | replace hb := odt hb | replace hb := odf hb ); (try omega))))
      all_goals first
        | (exfalso; omega)
        | (apply ret1; exact rfl; exact ⟨rfl, by (repeat (first | exact dt_end | apply dt_skip))⟩)
    · have hv : wrongV how o l = 0 := by unfold wrongV; rw [if_neg e0, if_neg h3, if_neg (fun h => h16 h.1), if_neg (fun h => hw0 h.2)]
      rw [hv]
      generalize wouldV how o l = wv at hWd hw0
      repeat' (first | apply aw_seq | apply aw_region | apply aw_ret | apply aw_skip | apply aw_block | apply es_nil | apply es_pure hT; iterate 4 exact rfl | apply es_skip; iterate 3 exact rfl | apply es_box; (iterate 5 exact rfl); intro g4 | apply es_callQ (hs := (hN.mono (memPairB (.tail _ m1) (.tail _ m2)))); iterate 7 exact rfl | (apply es_callQ (hs := (hS.mono (by simp))); iterate 7 exact rfl) | apply aw_draw [210] [] hmix; decide +kernel | apply es_callQ (hs := (hWd.mono (memPairB (.tail _ m1) (.tail _ m2)))); iterate 7 exact rfl | (apply es_load; (iterate 5 exact rfl); first | (apply ld_blk hT; exact rfl; exact rfl; (repeat (first | exact mcs )); exact rfl; exact rfl) | (apply ld_all hT; exact rfl; exact rfl; (repeat (first | exact mcs )); exact rfl)) | apply aw_condF; iterate 2 exact rfl | (apply es_case; exact rfl; all_goals (intro hb; (fail_if_success (change true = true at hb)); (fail_if_success (change false = false at hb)); (try dsimp only at hb); (try simp only [hb]); (first | replace hb := odt hb | replace hb := odf hb ); (try omega))) | (apply aw_cond; exact rfl; all_goals (intro hb; (try dsimp only at hb); (try simp only [hb]); (first | replace hb := odt hb | replace hb := odf hb ); (try omega))))
      all_goals first
        | (exfalso; omega)
        | (apply ret1; exact rfl; exact ⟨rfl, by (repeat (first | exact dt_end | apply dt_skip))⟩)
  have hv : wrongV how o l = 0 := by unfold wrongV; rw [if_neg e0, if_neg h3, if_neg (fun h => h16 h.1), if_neg (fun h => h17 h.1)]
  rw [hv]
  rcases hst with hst | ⟨hst, hll⟩
  all_goals
    rw [hst] at hS
    repeat' (first | apply aw_seq | apply aw_region | apply aw_ret | apply aw_skip | apply aw_block | apply es_nil | apply es_pure hT; iterate 4 exact rfl | apply es_skip; iterate 3 exact rfl | apply es_box; (iterate 5 exact rfl); intro g4 | apply es_callQ (hs := (hN.mono (memPairB (.tail _ m1) (.tail _ m2)))); iterate 7 exact rfl | (apply es_callQ (hs := (hS.mono (by simp))); iterate 7 exact rfl) | apply es_callQ (hs := (hL.mono (memPairB (.tail _ m1) (.tail _ m2)))); iterate 7 exact rfl | apply aw_draw [210] [] hmix; decide +kernel | (apply es_load; (iterate 5 exact rfl); first | (apply ld_all hT; exact rfl; exact rfl; (repeat (first | exact mcs )); exact rfl)) | apply aw_condF; iterate 2 exact rfl | (apply es_case; exact rfl; all_goals (intro hb; (fail_if_success (change true = true at hb)); (fail_if_success (change false = false at hb)); (try dsimp only at hb); (try simp only [hb]); (first | replace hb := odt hb | replace hb := odf hb ); (try omega))) | (apply aw_cond; exact rfl; all_goals (intro hb; (try dsimp only at hb); (try simp only [hb]); (first | replace hb := odt hb | replace hb := odf hb ); (try omega))))
    all_goals first
      | (exfalso; omega)
      | (apply ret1; exact rfl; exact ⟨rfl, by (repeat (first | exact dt_end | apply dt_skip))⟩)
end Go.Proofs.YtakilgkpfjhfdaaGreat

namespace Go.Proofs.YtakilgkpfjhfdaaGreat
open Go Go.Sl
attribute [local irreducible] AW ES EP Ld RetQ
set_option maxRecDepth 100000
set_option maxHeartbeats 1000000 in
theorem cross_trade (W : World) (F : List Chunk) (p g : Nat) (A : Option Addr) (c : Nat) (l : List Order) (o x : Order) (hB : BookB l) (ho : 0 ≤ o.left ∧ o.left ≤ 1000000) (hx : 1 ≤ x.left ∧ x.left ≤ 1000000) :
    FSpec Tryz.prog W 195 [.pointer (some ⟨p, 0, none⟩), .pointer (some ⟨g, 0, none⟩), .agg x.enc.toArray] (bookTab p A c l (.blk g 52 o.enc :: F))
      (fun v h' => v = .agg (FillR.enc ⟨x.id, o.id, x.owner, o.owner, x.price, min o.left x.left, x.left - min o.left x.left⟩).toArray ∧ ∃ A' c', h' = bookTab p A' c' (if min o.left x.left = x.left then dropO x.id l else lessO x.id (x.left - min o.left x.left) l) (.blk g 52 (Order.enc { o with left := o.left - min o.left x.left }) :: F)) := by
  refine FSpec.dropTo ?_
  refine spec_body Tryz.func195 rfl rfl Tryz.results195 Tryz.ntmps195 rfl rfl ?_
  generalize hn : min o.left x.left = n
  have hd := fun g5 g6 => (book_Drop W (.blk g6 242 ti242.zero.cells.toList :: .blk g5 52 x.enc :: .blk g 52 (Order.enc { o with left := o.left - n }) :: F) p A c l x.id hB.le)
  have hls := fun g5 g6 => (book_Less W (.blk g6 242 ti242.zero.cells.toList :: .blk g5 52 x.enc :: .blk g 52 (Order.enc { o with left := o.left - n }) :: F) p A c l x.id (x.left - n) hB.le)
  by_cases hc : n = x.left
  · rw [if_pos hc]
    have hc2 : (n == x.left) = true := by simpa using hc
    repeat' (first | apply aw_seq | apply aw_region | apply aw_ret | apply es_nil | apply es_pure hT; iterate 4 exact rfl | (apply es_i64 hT; (iterate 4 exact rfl); (iterate 2 (first | omega ))) | apply es_box; (iterate 5 exact rfl); intro g5 | (apply es_alloc hT; (iterate 5 exact rfl); first | (fail_if_success (have q := g6)); intro g6) | (apply aw_draw [] [] hmix; decide +kernel) | (apply es_min; (iterate 5 exact rfl); rw [hn]) | (apply es_store hT; (iterate 6 exact rfl); (repeat (first | exact sel0 | apply selS)); (iterate 3 exact rfl); exact nle rfl) | (apply es_buildS hT (cs := FillR.enc ⟨x.id, o.id, x.owner, o.owner, x.price, n, x.left - n⟩); iterate 4 exact rfl) | (apply es_call (hs := (FSpec.perm (hd g5 g6) (by (repeat (first | exact List.Perm.refl _ | (apply permC; · (repeat (first | exact sel0 | apply selS)))))))); (iterate 7 exact rfl); rintro _ _ ⟨rfl, A2, c2, rfl⟩) | (apply es_load; (iterate 5 exact rfl); first | (apply ld_blk hT; exact rfl; exact rfl; (repeat (first | exact mcs | apply mcm)); exact rfl; exact rfl) ) | (apply aw_cond; exact rfl; all_goals (intro hb; (try dsimp only at hb); (try simp only [hb]); (first | replace hb := odt hb | replace hb := odf hb ); (try omega))))
    all_goals first
      | (exfalso; omega)
      | (apply ret1c; exact rfl; exact ld_all hT rfl rfl (by (repeat (first | exact mcs))) rfl; exact ⟨_, by (repeat (first | exact dt_end | (apply dt_cons; · (repeat (first | exact sel0 | apply selS))) | apply dt_skip)), rfl, A2, c2, rfl⟩)
      | skip
  · rw [if_neg hc]
    have hc2 : (n == x.left) = false := by simpa using hc
    repeat' (first | apply aw_seq | apply aw_region | apply aw_ret | apply es_nil | apply es_pure hT; iterate 4 exact rfl | (apply es_i64 hT; (iterate 4 exact rfl); (iterate 2 (first | omega ))) | apply es_box; (iterate 5 exact rfl); intro g5 | (apply es_alloc hT; (iterate 5 exact rfl); first | (fail_if_success (have q := g6)); intro g6) | (apply aw_draw [] [] hmix; decide +kernel) | (apply es_min; (iterate 5 exact rfl); rw [hn]) | (apply es_store hT; (iterate 6 exact rfl); (repeat (first | exact sel0 | apply selS)); (iterate 3 exact rfl); exact nle rfl) | (apply es_buildS hT (cs := FillR.enc ⟨x.id, o.id, x.owner, o.owner, x.price, n, x.left - n⟩); iterate 4 exact rfl) | (apply es_call (hs := (FSpec.perm (hls g5 g6) (by (repeat (first | exact List.Perm.refl _ | (apply permC; · (repeat (first | exact sel0 | apply selS)))))))); (iterate 7 exact rfl); rintro _ _ ⟨rfl, rfl⟩) | (apply es_load; (iterate 5 exact rfl); first | (apply ld_blk hT; exact rfl; exact rfl; (repeat (first | exact mcs | apply mcm)); exact rfl; exact rfl) ) | (apply aw_cond; exact rfl; all_goals (intro hb; (try dsimp only at hb); (try simp only [hb]); (first | replace hb := odt hb | replace hb := odf hb ); (try omega))))
    all_goals first
      | (exfalso; omega)
      | (apply ret1c; exact rfl; exact ld_all hT rfl rfl (by (repeat (first | exact mcs))) rfl; exact ⟨_, by (repeat (first | exact dt_end | (apply dt_cons; · (repeat (first | exact sel0 | apply selS))) | apply dt_skip)), rfl, A, c, rfl⟩)
      | skip
theorem runX_step {o : Order} {l ms : List Order} {k : Nat} {x : Order} (hx : ms[k]? = some x) : runX o l (ms.take (k + 1)) = stepX o (runX o l (ms.take k)) x := by
  unfold runX; rw [List.take_add_one, hx, List.foldl_append]; rfl
theorem runX_stop {o : Order} {l ms : List Order} {k : Nat} (h : (runX o l (ms.take k)).left = 0) : runX o l ms = runX o l (ms.take k) := by
  conv => lhs; rw [← List.take_append_drop k ms]
  have e : runX o l (ms.take k ++ ms.drop k) = (ms.drop k).foldl (stepX o) (runX o l (ms.take k)) := by unfold runX; rw [List.foldl_append]
  rw [e, foldX_stop h]
theorem stepX_lens {o : Order} {s : XSt} {x : Order} : (stepX o s x).fills.length ≤ s.fills.length + 1 ∧ (stepX o s x).gones.length ≤ s.gones.length + 1 := by
  unfold stepX
  split
  · omega
  · split <;> simp
theorem runX_facts {o : Order} {l ms : List Order} (hl : ∀ x ∈ ms, 1 ≤ x.left) (ho : 0 ≤ o.left) : ∀ k, k ≤ ms.length → 0 ≤ (runX o l (ms.take k)).left ∧ (runX o l (ms.take k)).left ≤ o.left ∧ (runX o l (ms.take k)).fills.length ≤ k ∧ (runX o l (ms.take k)).gones.length ≤ k := by
  intro k
  induction k with
  | zero => intro _; exact ⟨ho, Int.le_refl _, Nat.le_refl _, Nat.le_refl _⟩
  | succ k ih =>
    intro hk
    obtain ⟨x, hx⟩ : ∃ x, ms[k]? = some x := ⟨ms[k]'(by omega), List.getElem?_eq_getElem (by omega)⟩
    rw [runX_step hx]
    have h1 := ih (by omega)
    have h2 := stepX_left (o := o) (s := runX o l (ms.take k)) (hl x (List.mem_of_getElem? hx)) h1.1
    have h3 := stepX_lens (o := o) (s := runX o l (ms.take k)) (x := x)
    omega
theorem newB_left {how : Int} {o : Order} {l : List Order} (h : newB how o l = true) : 1 ≤ o.left ∧ o.left ≤ 1000000 := by
  unfold newB at h
  simp only [Bool.and_eq_true] at h
  have := okO_left h.2.2.2.1
  unfold asX at this
  split at this <;> exact this
set_option maxHeartbeats 4000000 in
theorem cross_Do (W : World) (F : List Chunk) (p : Nat) (A : Option Addr) (c : Nat) (l : List Order) (o : Order) (how : Int) (hB : BookB l) :
    FSpec Tryz.prog W 171 [.pointer (some ⟨p, 0, none⟩), .agg o.enc.toArray, .int .i64 how] (bookTab p A c l F)
      (fun v h' => ∃ Af cf Ag cg A' c', v = .tuple #[.slice Af (doV how o l).fills.length cf, .slice Ag (doV how o l).gones.length cg, .int .i64 (doV how o l).left, .int .i64 (doV how o l).err] ∧
        h' = .own Af (doV how o l).fills.length cf 242 7 ((doV how o l).fills.flatMap FillR.enc) :: .own Ag (doV how o l).gones.length cg 240 3 ((doV how o l).gones.flatMap GoneR.enc) :: bookTab p A' c' (doV how o l).bk F ∧
        OwnF Af (doV how o l).fills.length cf 7 ((doV how o l).fills.flatMap FillR.enc) ∧ OwnF Ag (doV how o l).gones.length cg 3 ((doV how o l).gones.flatMap GoneR.enc)) := by
  refine FSpec.dropF ?_
  have hW' := fun h m1 m2 => (cross_wrong W p A c l o how hB).mono (h' := h) (memPairB m1 m2)
  have hM := fun h m1 m2 => cross_meets W h p A c l o how hB m1 m2
  have hS := cross_stays W how
  refine spec_body Tryz.func171 rfl rfl Tryz.results171 Tryz.ntmps171 rfl rfl ?_
  by_cases hw0 : wrongV how o l = 0
  · rw [hw0] at hW'
    have hnb : newB how o l = true := by
      cases h : newB how o l
      · unfold wrongV at hw0; rw [if_pos h] at hw0; omega
      · rfl
    have hol := newB_left hnb
    have hml := meets_len how o l
    have hbl := hB.len
    have hlf : ∀ x ∈ meetsO how o l, 1 ≤ x.left ∧ x.left ≤ 1000000 := fun x hx => hB.left x (meets_mem hx).1
    have hsf0 : ∀ s, s = runX o l (meetsO how o l) → s = runX o l (meetsO how o l) := fun _ h => h
    generalize hms : meetsO how o l = ms at hM hml hlf
    repeat' (first | apply aw_seq | apply aw_region | apply aw_skip | apply aw_block | apply es_nil | apply es_pure hT; iterate 4 exact rfl | apply es_box; (iterate 5 exact rfl); intro g4 | (apply es_callQ (hs := (hW' _ (by (repeat (first | exact mcs | apply mcm))) (by (repeat (first | exact mcs | apply mcm))))); iterate 7 exact rfl) | (apply es_call (hs := (hM _ (by (repeat (first | exact mcs | apply mcm))) (by (repeat (first | exact mcs | apply mcm))))); (iterate 7 exact rfl); rintro _ _ ⟨AM, cM, rfl, rfl, hfM⟩) | (apply es_load; (iterate 5 exact rfl); first | (apply ld_all hT; exact rfl; exact rfl; (repeat (first | exact mcs )); exact rfl)) | apply aw_condF; iterate 2 exact rfl)
    all_goals try omega
    refine aw_conv (fun w hw => ⟨_, (hw.own_nil 240 3).own_nil 242 7, ?_⟩)
    refine aw_loopD (α := Nat × Option Addr × Nat × Option Addr × Nat × Option Addr × Nat) (E := fun x => [(0, .pointer (some ⟨p, 0, none⟩)), (2, .int .i64 how), (4, .pointer (some ⟨g4, 0, none⟩)), (6, .slice x.2.1 (runX o l (ms.take x.1)).fills.length x.2.2.1), (7, .slice x.2.2.2.1 (runX o l (ms.take x.1)).gones.length x.2.2.2.2.1), (23, .slice AM ms.length cM), (24, .int .i64 ms.length), (25, .int .i64 x.1)])
      (H := fun x => .own AM ms.length cM 52 6 (ms.flatMap Order.enc) :: .own x.2.1 (runX o l (ms.take x.1)).fills.length x.2.2.1 242 7 ((runX o l (ms.take x.1)).fills.flatMap FillR.enc) :: .own x.2.2.2.1 (runX o l (ms.take x.1)).gones.length x.2.2.2.2.1 240 3 ((runX o l (ms.take x.1)).gones.flatMap GoneR.enc) :: bookTab p x.2.2.2.2.2.1 x.2.2.2.2.2.2 (runX o l (ms.take x.1)).bk (.blk g4 52 (Order.enc { o with left := (runX o l (ms.take x.1)).left }) :: F))
      (μ := fun x => ms.length - x.1) (S := fun x => x.1 ≤ ms.length) (0, none, 0, none, 0, A, c) (Nat.zero_le _) ⟨rfl, rfl, rfl, rfl, rfl, rfl, rfl, rfl, trivial⟩ (by
        show DropTo _ (.own AM ms.length cM 52 6 (ms.flatMap Order.enc) :: .own none 0 0 242 7 [] :: .own none 0 0 240 3 [] :: bookTab p A c l (.blk g4 52 o.enc :: F))
        (repeat (first | exact dt_end | (apply dt_cons; · (repeat (first | exact sel0 | apply selS)))))) ?_
    rintro ⟨k, Af, cf, Ag, cg, A1, c1⟩ hk
    dsimp only at hk ⊢
    have hfc := runX_facts (o := o) (l := l) (fun x hx => (hlf x hx).1) (by omega) k hk
    have hBs : BookB (runX o l (ms.take k)).bk := runX_B hB
    by_cases hz : (runX o l (ms.take k)).left = 0
    · have hsf : runX o l (ms.take k) = runX o l (meetsO how o l) := by rw [hms]; exact (runX_stop hz).symm
      by_cases hlt : k < ms.length
      · obtain ⟨x, hx⟩ : ∃ x, ms[k]? = some x := ⟨ms[k]'(by omega), List.getElem?_eq_getElem (by omega)⟩
        have hx2 : ms[(k : Int).toNat]? = some x := by simpa using hx
        have hAM := hfM.some_ (by omega)
        have hd1 : decide ((k : Int) < (ms.length : Int)) = true := by simp; omega
        generalize runX o l (ms.take k) = s at hfc hBs hz hsf ⊢
        have hrs : doV how o l = ⟨s.fills, s.gones, s.left, 0, restX how o s⟩ := by unfold doV; rw [if_pos hw0, ← hsf]
        rw [hrs]
        by_cases hst : staysB how = true ∧ s.left > 0
        · have hrx : restX how o s = addO { o with left := s.left } s.bk := by unfold restX; rw [if_pos hst]
          rw [hrx]
          rw [hst.1] at hS
          have hst2 := hst.2
          have hadd := book_Add W (.own AM ms.length cM 52 6 (ms.flatMap Order.enc) :: .own Af s.fills.length cf 242 7 (s.fills.flatMap FillR.enc) :: .own Ag s.gones.length cg 240 3 (s.gones.flatMap GoneR.enc) :: .blk g4 52 (Order.enc { o with left := s.left }) :: F) p A1 c1 s.bk { o with left := s.left } hBs.le
          repeat' (first | apply aw_seq | apply aw_region | apply es_nil | apply es_pure hT; iterate 4 exact rfl | (apply aw_cond; exact rfl; all_goals (intro hb; (try dsimp only at hb); (try simp only [hb]); (first | replace hb := odt hb | replace hb := odf hb ); (try omega))))
          all_goals first
            | (exfalso; omega)
            | (apply ret4; exact rfl; exact rfl; exact rfl; exact rfl
               exact ⟨.own Af s.fills.length cf 242 7 (s.fills.flatMap FillR.enc) :: .own Ag s.gones.length cg 240 3 (s.gones.flatMap GoneR.enc) :: bookTab p A9 c9 (addO { o with left := s.left } s.bk) F, by (repeat (first | exact dt_end | (apply dt_cons; · (repeat (first | exact sel0 | apply selS))) | apply dt_skip)), fun w hw => ⟨Af, cf, Ag, cg, A9, c9, rfl, rfl, hw.ownF mem0, hw.ownF mem1⟩⟩)
            | skip
        · have hrx : restX how o s = s.bk := by unfold restX; rw [if_neg hst]
          rw [hrx]
          have hcs : staysB how = false ∨ (staysB how = true ∧ s.left ≤ 0) := by
            cases h : staysB how
            · exact .inl rfl
            · refine .inr ⟨rfl, ?_⟩
              rcases Int.lt_or_le 0 s.left with h2 | h2
              · exact absurd ⟨h, h2⟩ hst
              · exact h2
          rcases hcs with hcs | ⟨hcs, hcl⟩
          all_goals
            rw [hcs] at hS
            repeat' (first | apply aw_seq | apply aw_region | apply aw_ret | apply aw_skip | apply aw_exit | apply aw_block | apply es_nil | apply es_pure hT; iterate 4 exact rfl | apply es_skip; iterate 3 exact rfl | apply es_idx hT; (iterate 8 exact rfl); (iterate 2 omega); exact hAM | apply es_load; (iterate 5 exact rfl); exact ld_elem hT rfl rfl (hfM.reads mem0) Order.enc_len rfl hx2 rfl | (apply es_alloc hT; (iterate 5 exact rfl); first | (fail_if_success (have q := g12)); intro g12) | (apply es_callQ (hs := (hS.mono (by simp))); iterate 7 exact rfl) | (apply aw_draw [] [] hmix; decide +kernel) | (apply es_store hT; (iterate 6 exact rfl); (repeat (first | exact sel0 )); (iterate 3 exact rfl); exact nle rfl) | (apply es_load; (iterate 5 exact rfl); first | (apply ld_blk hT; exact rfl; exact rfl; (repeat (first | exact mcs | apply mcm)); exact rfl; exact rfl) ) | (apply aw_condF; iterate 2 exact rfl) | (apply aw_cond; exact rfl; all_goals (intro hb; (try dsimp only at hb); (try simp only [hb]); (first | replace hb := odt hb | replace hb := odf hb ); (try omega))))
            all_goals first
              | (exfalso; omega)
              | (apply ret4; exact rfl; exact rfl; exact rfl; exact rfl
                 exact ⟨.own Af s.fills.length cf 242 7 (s.fills.flatMap FillR.enc) :: .own Ag s.gones.length cg 240 3 (s.gones.flatMap GoneR.enc) :: bookTab p A1 c1 s.bk F, by (repeat (first | exact dt_end | (apply dt_cons; · (repeat (first | exact sel0 | apply selS))) | apply dt_skip)), fun w hw => ⟨Af, cf, Ag, cg, A1, c1, rfl, rfl, hw.ownF mem0, hw.ownF mem1⟩⟩)
              | skip
      · obtain rfl : k = ms.length := by omega
        have hd1 : decide ((ms.length : Int) < (ms.length : Int)) = false := by simp
        generalize runX o l (ms.take ms.length) = s at hfc hBs hz hsf ⊢
        have hrs : doV how o l = ⟨s.fills, s.gones, s.left, 0, restX how o s⟩ := by unfold doV; rw [if_pos hw0, ← hsf]
        rw [hrs]
        by_cases hst : staysB how = true ∧ s.left > 0
        · have hrx : restX how o s = addO { o with left := s.left } s.bk := by unfold restX; rw [if_pos hst]
          rw [hrx]
          rw [hst.1] at hS
          have hst2 := hst.2
          have hadd := book_Add W (.own AM ms.length cM 52 6 (ms.flatMap Order.enc) :: .own Af s.fills.length cf 242 7 (s.fills.flatMap FillR.enc) :: .own Ag s.gones.length cg 240 3 (s.gones.flatMap GoneR.enc) :: .blk g4 52 (Order.enc { o with left := s.left }) :: F) p A1 c1 s.bk { o with left := s.left } hBs.le
          repeat' (first | apply aw_seq | apply aw_region | apply es_nil | apply es_pure hT; iterate 4 exact rfl | (apply aw_cond; exact rfl; all_goals (intro hb; (try dsimp only at hb); (try simp only [hb]); (first | replace hb := odt hb | replace hb := odf hb ); (try omega))))
          all_goals first
            | (exfalso; omega)
            | (apply ret4; exact rfl; exact rfl; exact rfl; exact rfl
               exact ⟨.own Af s.fills.length cf 242 7 (s.fills.flatMap FillR.enc) :: .own Ag s.gones.length cg 240 3 (s.gones.flatMap GoneR.enc) :: bookTab p A9 c9 (addO { o with left := s.left } s.bk) F, by (repeat (first | exact dt_end | (apply dt_cons; · (repeat (first | exact sel0 | apply selS))) | apply dt_skip)), fun w hw => ⟨Af, cf, Ag, cg, A9, c9, rfl, rfl, hw.ownF mem0, hw.ownF mem1⟩⟩)
            | skip
        · have hrx : restX how o s = s.bk := by unfold restX; rw [if_neg hst]
          rw [hrx]
          have hcs : staysB how = false ∨ (staysB how = true ∧ s.left ≤ 0) := by
            cases h : staysB how
            · exact .inl rfl
            · refine .inr ⟨rfl, ?_⟩
              rcases Int.lt_or_le 0 s.left with h2 | h2
              · exact absurd ⟨h, h2⟩ hst
              · exact h2
          rcases hcs with hcs | ⟨hcs, hcl⟩
          all_goals
            rw [hcs] at hS
            repeat' (first | apply aw_seq | apply aw_region | apply aw_ret | apply aw_skip | apply aw_exit | apply es_nil | apply es_pure hT; iterate 4 exact rfl | apply es_skip; iterate 3 exact rfl | (apply es_callQ (hs := (hS.mono (by simp))); iterate 7 exact rfl) | apply aw_draw [] [] hmix; decide +kernel | (apply es_load; (iterate 5 exact rfl); first | (apply ld_blk hT; exact rfl; exact rfl; (repeat (first | exact mcs | apply mcm)); exact rfl; exact rfl) ) | apply aw_condF; iterate 2 exact rfl | (apply aw_cond; exact rfl; all_goals (intro hb; (try dsimp only at hb); (try simp only [hb]); (first | replace hb := odt hb | replace hb := odf hb ); (try omega))))
            all_goals first
              | (exfalso; omega)
              | (apply ret4; exact rfl; exact rfl; exact rfl; exact rfl
                 exact ⟨.own Af s.fills.length cf 242 7 (s.fills.flatMap FillR.enc) :: .own Ag s.gones.length cg 240 3 (s.gones.flatMap GoneR.enc) :: bookTab p A1 c1 s.bk F, by (repeat (first | exact dt_end | (apply dt_cons; · (repeat (first | exact sel0 | apply selS))) | apply dt_skip)), fun w hw => ⟨Af, cf, Ag, cg, A1, c1, rfl, rfl, hw.ownF mem0, hw.ownF mem1⟩⟩)
              | skip
    · by_cases hlt : k < ms.length
      · obtain ⟨x, hx⟩ : ∃ x, ms[k]? = some x := ⟨ms[k]'(by omega), List.getElem?_eq_getElem (by omega)⟩
        have hx2 : ms[(k : Int).toNat]? = some x := by simpa using hx
        have hAM := hfM.some_ (by omega)
        have hd1 : decide ((k : Int) < (ms.length : Int)) = true := by simp; omega
        have hst := runX_step (o := o) (l := l) hx
        have hxl := hlf x (List.mem_of_getElem? hx)
        generalize runX o l (ms.take k) = s at hfc hBs hz hst ⊢
        have hz2 : (s.left == 0) = false := beq_eq_false_iff_ne.2 hz
        unfold stepX at hst
        rw [if_neg hz] at hst
        by_cases hown : x.owner = o.owner
        · rw [if_pos hown] at hst
          have hdr := fun g12 => book_Drop W (.blk g12 52 x.enc :: .own AM ms.length cM 52 6 (ms.flatMap Order.enc) :: .own Af s.fills.length cf 242 7 (s.fills.flatMap FillR.enc) :: .own Ag s.gones.length cg 240 3 (s.gones.flatMap GoneR.enc) :: .blk g4 52 (Order.enc { o with left := s.left }) :: F) p A1 c1 s.bk x.id hBs.le
          repeat' (first | apply aw_seq | apply aw_region | apply aw_skip | apply aw_exit | apply aw_block | apply es_nil | apply es_pure hT; iterate 4 exact rfl | (apply es_i64 hT; (iterate 4 exact rfl); (iterate 2 (first | omega ))) | apply es_idx hT; (iterate 8 exact rfl); (iterate 2 omega); exact hAM | apply es_load; (iterate 5 exact rfl); exact ld_elem hT rfl rfl (hfM.reads mem0) Order.enc_len rfl hx2 rfl | (apply es_alloc hT; (iterate 5 exact rfl); first | (fail_if_success (have q := g12)); intro g12) | (apply es_store hT; (iterate 6 exact rfl); (repeat (first | exact sel0 )); (iterate 3 exact rfl); exact nle rfl) | (apply es_call (hs := (FSpec.perm (hdr g12) (by (repeat (first | exact List.Perm.refl _ | (apply permC; · (repeat (first | exact sel0 | apply selS)))))))); (iterate 7 exact rfl); rintro _ _ ⟨rfl, A9, c9, rfl⟩) | (apply es_buildS hT (cs := GoneR.enc ⟨x.id, x.owner, x.left⟩); iterate 4 exact rfl) | (apply es_buildSlice hT; (iterate 12 exact rfl); intro g) | (apply es_append hT; (iterate 10 exact rfl); (repeat (first | exact sel0 | apply selS)); exact Reads.own mem0 rfl (GoneR.enc_one ⟨x.id, x.owner, x.left⟩); omega; (show (_ : Nat) * 24 ≤ _; omega); intro A' c') | (apply es_load; (iterate 5 exact rfl); first | (apply ld_blk hT; exact rfl; exact rfl; (repeat (first | exact mcs | apply mcm)); exact rfl; exact rfl) ) | (apply aw_cond; exact rfl; all_goals (intro hb; (try dsimp only at hb); (try simp only [hb]); (first | replace hb := odt hb | replace hb := odf hb ); (try omega))))
          all_goals first
            | (exfalso; omega)
            | (refine loopq_end (k + 1, Af, cf, A', c', A9, c9) (by (try dsimp only); omega) (by (try dsimp only); omega) ?_ ?_
               · dsimp only; rw [hst]; exact ⟨rfl, rfl, rfl, rfl, by rw [List.length_append]; rfl, rfl, rfl, rfl, trivial⟩
               · dsimp only; rw [hst]; dsimp only; rw [List.length_append, List.flatMap_append]; (repeat (first | exact dt_end | (apply dt_cons; · (repeat (first | exact sel0 | apply selS))) | apply dt_skip)))
            | skip
        · rw [if_neg hown] at hst
          have htr := fun g12 => cross_trade W (.blk g12 52 x.enc :: .own AM ms.length cM 52 6 (ms.flatMap Order.enc) :: .own Af s.fills.length cf 242 7 (s.fills.flatMap FillR.enc) :: .own Ag s.gones.length cg 240 3 (s.gones.flatMap GoneR.enc) :: F) p g4 A1 c1 s.bk { o with left := s.left } x hBs (by dsimp only; omega) hxl
          dsimp only at htr hst
          generalize hn : min s.left x.left = n at htr hst
          repeat' (first | apply aw_seq | apply aw_region | apply aw_skip | apply aw_block | apply es_nil | apply es_pure hT; iterate 4 exact rfl | (apply es_i64 hT; (iterate 4 exact rfl); (iterate 2 (first | omega ))) | apply es_idx hT; (iterate 8 exact rfl); (iterate 2 omega); exact hAM | apply es_load; (iterate 5 exact rfl); exact ld_elem hT rfl rfl (hfM.reads mem0) Order.enc_len rfl hx2 rfl | (apply es_alloc hT; (iterate 5 exact rfl); first | (fail_if_success (have q := g12)); intro g12) | (apply es_store hT; (iterate 6 exact rfl); (repeat (first | exact sel0 )); (iterate 3 exact rfl); exact nle rfl) | (apply es_call (hs := (FSpec.perm (htr g12) (by (repeat (first | exact List.Perm.refl _ | (apply permC; · (repeat (first | exact sel0 | apply selS)))))))); (iterate 7 exact rfl); rintro _ _ ⟨rfl, A9, c9, rfl⟩) | (apply es_buildSlice hT; (iterate 12 exact rfl); intro g) | (apply es_append hT; (iterate 10 exact rfl); (repeat (first | exact sel0 | apply selS)); exact Reads.own mem0 rfl (FillR.enc_one ⟨x.id, o.id, x.owner, o.owner, x.price, n, x.left - n⟩); omega; (show (_ : Nat) * 56 ≤ _; omega); intro A' c') | (apply es_load; (iterate 5 exact rfl); first | (apply ld_blk hT; exact rfl; exact rfl; (repeat (first | exact mcs | apply mcm)); exact rfl; exact rfl) | (apply ld_all hT; exact rfl; exact rfl; (repeat (first | exact mcs )); exact rfl)) | (apply aw_cond; exact rfl; all_goals (intro hb; (try dsimp only at hb); (try simp only [hb]); (first | replace hb := odt hb | replace hb := odf hb ); (try omega))))
          all_goals first
            | (exfalso; omega)
            | (refine loopq_end (k + 1, A', c', Ag, cg, A9, c9) (by (try dsimp only); omega) (by (try dsimp only); omega) ?_ ?_
               · dsimp only; rw [hst]; exact ⟨rfl, rfl, rfl, by rw [List.length_append]; rfl, rfl, rfl, rfl, rfl, trivial⟩
               · dsimp only; rw [hst]; dsimp only; rw [List.length_append, List.flatMap_append]; (repeat (first | exact dt_end | (apply dt_cons; · (repeat (first | exact sel0 | apply selS))) | apply dt_skip)))
            | skip
      · obtain rfl : k = ms.length := by omega
        have hd1 : decide ((ms.length : Int) < (ms.length : Int)) = false := by simp
        have hsf : runX o l (ms.take ms.length) = runX o l (meetsO how o l) := by rw [hms, List.take_length]
        generalize runX o l (ms.take ms.length) = s at hfc hBs hz hsf ⊢
        have hrs : doV how o l = ⟨s.fills, s.gones, s.left, 0, restX how o s⟩ := by unfold doV; rw [if_pos hw0, ← hsf]
        rw [hrs]
        by_cases hst : staysB how = true ∧ s.left > 0
        · have hrx : restX how o s = addO { o with left := s.left } s.bk := by unfold restX; rw [if_pos hst]
          rw [hrx]
          rw [hst.1] at hS
          have hst2 := hst.2
          have hadd := book_Add W (.own AM ms.length cM 52 6 (ms.flatMap Order.enc) :: .own Af s.fills.length cf 242 7 (s.fills.flatMap FillR.enc) :: .own Ag s.gones.length cg 240 3 (s.gones.flatMap GoneR.enc) :: .blk g4 52 (Order.enc { o with left := s.left }) :: F) p A1 c1 s.bk { o with left := s.left } hBs.le
          repeat' (first | apply aw_seq | apply aw_region | apply aw_ret | apply aw_exit | apply es_nil | apply es_pure hT; iterate 4 exact rfl | (apply es_callQ (hs := (hS.mono (by simp))); iterate 7 exact rfl) | (apply es_call (hs := (FSpec.perm hadd (by (repeat (first | exact List.Perm.refl _ | (apply permC; · (repeat (first | exact sel0 | apply selS)))))))); (iterate 7 exact rfl); rintro _ _ ⟨rfl, A9, c9, rfl⟩) | apply aw_draw [] [] hmix; decide +kernel | (apply es_load; (iterate 5 exact rfl); first | (apply ld_blk hT; exact rfl; exact rfl; (repeat (first | exact mcs | apply mcm)); exact rfl; exact rfl) | (apply ld_all hT; exact rfl; exact rfl; (repeat (first | exact mcs | apply mcm)); exact rfl)) | (apply aw_cond; exact rfl; all_goals (intro hb; (try dsimp only at hb); (try simp only [hb]); (first | replace hb := odt hb | replace hb := odf hb ); (try omega))))
          all_goals first
            | (exfalso; omega)
            | (apply ret4; exact rfl; exact rfl; exact rfl; exact rfl
               exact ⟨.own Af s.fills.length cf 242 7 (s.fills.flatMap FillR.enc) :: .own Ag s.gones.length cg 240 3 (s.gones.flatMap GoneR.enc) :: bookTab p A9 c9 (addO { o with left := s.left } s.bk) F, by (repeat (first | exact dt_end | (apply dt_cons; · (repeat (first | exact sel0 | apply selS))) | apply dt_skip)), fun w hw => ⟨Af, cf, Ag, cg, A9, c9, rfl, rfl, hw.ownF mem0, hw.ownF mem1⟩⟩)
            | skip
        · have hrx : restX how o s = s.bk := by unfold restX; rw [if_neg hst]
          rw [hrx]
          have hcs : staysB how = false ∨ (staysB how = true ∧ s.left ≤ 0) := by
            cases h : staysB how
            · exact .inl rfl
            · refine .inr ⟨rfl, ?_⟩
              rcases Int.lt_or_le 0 s.left with h2 | h2
              · exact absurd ⟨h, h2⟩ hst
              · exact h2
          rcases hcs with hcs | ⟨hcs, hcl⟩
          all_goals
            rw [hcs] at hS
            repeat' (first | apply aw_seq | apply aw_region | apply aw_ret | apply aw_skip | apply aw_exit | apply es_nil | apply es_pure hT; iterate 4 exact rfl | apply es_skip; iterate 3 exact rfl | (apply es_callQ (hs := (hS.mono (by simp))); iterate 7 exact rfl) | apply aw_draw [] [] hmix; decide +kernel | (apply es_load; (iterate 5 exact rfl); first | (apply ld_blk hT; exact rfl; exact rfl; (repeat (first | exact mcs | apply mcm)); exact rfl; exact rfl) ) | apply aw_condF; iterate 2 exact rfl | (apply aw_cond; exact rfl; all_goals (intro hb; (try dsimp only at hb); (try simp only [hb]); (first | replace hb := odt hb | replace hb := odf hb ); (try omega))))
            all_goals first
              | (exfalso; omega)
              | (apply ret4; exact rfl; exact rfl; exact rfl; exact rfl
                 exact ⟨.own Af s.fills.length cf 242 7 (s.fills.flatMap FillR.enc) :: .own Ag s.gones.length cg 240 3 (s.gones.flatMap GoneR.enc) :: bookTab p A1 c1 s.bk F, by (repeat (first | exact dt_end | (apply dt_cons; · (repeat (first | exact sel0 | apply selS))) | apply dt_skip)), fun w hw => ⟨Af, cf, Ag, cg, A1, c1, rfl, rfl, hw.ownF mem0, hw.ownF mem1⟩⟩)
              | skip
  · have hd : doV how o l = ⟨[], [], 0, wrongV how o l, l⟩ := by unfold doV; rw [if_neg hw0]
    rw [hd]
    have hne : (wrongV how o l != 0) = true := by simp [hw0]
    generalize wrongV how o l = e at hW' hw0 hne
    refine aw_conv (fun w hw => ⟨_, (hw.own_nil 240 3).own_nil 242 7, ?_⟩)
    repeat' (first | apply aw_seq | apply aw_region | apply aw_ret | apply es_nil | apply es_pure hT; iterate 4 exact rfl | apply es_box; (iterate 5 exact rfl); intro g4 | (apply es_callQ (hs := (hW' _ (by (repeat (first | exact mcs | apply mcm))) (by (repeat (first | exact mcs | apply mcm))))); iterate 7 exact rfl) | (apply es_load; (iterate 5 exact rfl); first | (apply ld_all hT; exact rfl; exact rfl; (repeat (first | exact mcs )); exact rfl)) | (apply aw_cond; exact rfl; all_goals (intro hb; (try dsimp only at hb); (try simp only [hb]); (first | replace hb := bne_t hb | replace hb := bne_f hb ); (try omega))))
    all_goals first
      | (exfalso; omega)
      | (apply ret4; exact rfl; exact rfl; exact rfl; exact rfl
         exact ⟨.own none 0 0 242 7 [] :: .own none 0 0 240 3 [] :: bookTab p A c l F, by (repeat (first | exact dt_end | (apply dt_cons; · (repeat (first | exact sel0 | apply selS))) | apply dt_skip)), fun w hw => ⟨none, 0, none, 0, A, c, rfl, rfl, hw.ownF mem0, hw.ownF mem1⟩⟩)
      | (exfalso; simp_all; done)
      | skip
end Go.Proofs.YtakilgkpfjhfdaaGreat

namespace Go.Proofs.YtakilgkpfjhfdaaGreat
open Go Go.Sl
def sumQ (f : List FillR) : Int := (f.map FillR.qty).sum
theorem sumQ_app (a b : List FillR) : sumQ (a ++ b) = sumQ a + sumQ b := by simp only [sumQ, List.map_append]; exact sum_append _ _
theorem wrong_new' {how : Int} {o : Order} {l : List Order} (h : wrongV how o l = 0) : newB how o l = true := by
  cases hn : newB how o l
  · unfold wrongV at h; rw [if_pos hn] at h; omega
  · rfl
structure FillF (o : Order) (f : FillR) (x : Order) : Prop where
  maker : f.maker = x.id
  taker : f.taker = o.id
  mparty : f.mparty = x.owner
  tparty : f.tparty = o.owner
  price : f.price = x.price
  left : f.left = x.left - f.qty
  qty : 1 ≤ f.qty
  own : x.owner ≠ o.owner
structure WayX (o : Order) (l : List Order) (done : List Order) (s : XSt) : Prop where
  sum : sumQ s.fills = o.left - s.left
  left : s.left = o.left - min o.left (sumL (othersOf o done))
  mks : ∃ xs : List Order, xs.Sublist done ∧ xs.length = s.fills.length ∧ (∀ (i : Nat) f x, s.fills[i]? = some f → xs[i]? = some x → FillF o f x ∧ (f.left ≠ 0 → s.left = 0 ∧ i + 1 = s.fills.length))
  sub : ∀ y ∈ s.bk, ∃ x ∈ l, y.id = x.id ∧ y.seq = x.seq ∧ y.side = x.side ∧ y.price = x.price ∧ y.owner = x.owner
  len : s.bk.length ≤ l.length
theorem dropO_mem {id : Int} {l : List Order} {y : Order} (h : y ∈ dropO id l) : y ∈ l := (dropO_sub id l).subset h
theorem lessO_mem {id left : Int} {l : List Order} {y : Order} (h : y ∈ lessO id left l) : ∃ x ∈ l, y.id = x.id ∧ y.seq = x.seq ∧ y.side = x.side ∧ y.price = x.price ∧ y.owner = x.owner := by
  unfold lessO at h
  split at h
  · exact ⟨y, h, rfl, rfl, rfl, rfl, rfl⟩
  · rename_i x hx
    split at h
    · rcases List.mem_or_eq_of_mem_set h with h | h
      · exact ⟨y, h, rfl, rfl, rfl, rfl, rfl⟩
      · exact ⟨x, List.mem_of_find?_eq_some hx, by rw [h], by rw [h], by rw [h], by rw [h], by rw [h]⟩
    · exact ⟨y, h, rfl, rfl, rfl, rfl, rfl⟩
theorem lessO_len (id left : Int) (l : List Order) : (lessO id left l).length = l.length := by
  unfold lessO
  split
  · rfl
  · split
    · simp
    · rfl
theorem othersOf_app (o : Order) (a : List Order) (x : Order) : sumL (othersOf o (a ++ [x])) = sumL (othersOf o a) + if x.owner = o.owner then 0 else x.left := by
  unfold othersOf
  rw [List.filter_append, sumL_append]
  by_cases h : x.owner = o.owner <;> simp [h, sumL]
theorem way_start (o : Order) (l : List Order) (ho : 0 ≤ o.left) : WayX o l [] ⟨o.left, l, [], []⟩ where
  sum := by simp [sumQ]
  left := by simp [othersOf, sumL]; omega
  mks := ⟨[], List.Sublist.refl _, rfl, fun i f x h => by simp at h⟩
  sub := fun y hy => ⟨y, hy, rfl, rfl, rfl, rfl, rfl⟩
  len := Nat.le_refl _
theorem way_step {o : Order} {l done : List Order} {s : XSt} {x : Order} (h : WayX o l done s) (hd : ∀ y ∈ done, 1 ≤ y.left) (hx : 1 ≤ x.left) (hl : 0 ≤ s.left) (ho : 0 ≤ o.left) : WayX o l (done ++ [x]) (stepX o s x) := by
  have hpos : 0 ≤ sumL (othersOf o done) := by
    have key : ∀ m : List Order, (∀ y ∈ m, 1 ≤ y.left) → 0 ≤ sumL m := by
      intro m
      induction m with
      | nil => intro _; simp [sumL]
      | cons y m ih => intro hm; have := hm y mcs; have := ih (fun z hz => hm z (mcm _ hz)); simp only [sumL, List.map_cons, List.sum_cons] at *; omega
    exact key _ (fun y hy => hd y (List.mem_filter.1 hy).1)
  have hs := h.sum
  have hle := h.left
  obtain ⟨xs, hx1, hx2, hx3⟩ := h.mks
  have hsum := othersOf_app o done x
  unfold stepX
  split
  · rename_i h0
    refine ⟨hs, ?_, ⟨xs, hx1.trans (List.sublist_append_left _ _), hx2, hx3⟩, h.sub, h.len⟩
    rw [hsum]; split <;> omega
  · rename_i h0
    split
    · rename_i hown
      refine ⟨hs, ?_, ⟨xs, hx1.trans (List.sublist_append_left _ _), hx2, ?_⟩, fun y hy => h.sub y (dropO_mem hy), Nat.le_trans (dropO_sub _ _).length_le h.len⟩
      · rw [hsum, if_pos hown]; dsimp only; omega
      · exact hx3
    · rename_i hown
      refine ⟨?_, ?_, ⟨xs ++ [x], hx1.append (List.Sublist.refl _), by simp [hx2], ?_⟩, ?_, ?_⟩
      · rw [sumQ_app]; dsimp only; simp only [sumQ, List.map_cons, List.map_nil, List.sum_cons, List.sum_nil] at hs ⊢; omega
      · rw [hsum, if_neg hown]; dsimp only; omega
      · intro i f y hf hy
        dsimp only at hf ⊢
        rcases Nat.lt_trichotomy i s.fills.length with hi | hi | hi
        · rw [List.getElem?_append_left hi] at hf
          rw [List.getElem?_append_left (by omega)] at hy
          obtain ⟨k1, k2⟩ := hx3 i f y hf hy
          exact ⟨k1, fun hne => absurd (k2 hne).1 h0⟩
        · subst hi
          rw [List.getElem?_append_right (Nat.le_refl _), Nat.sub_self] at hf
          rw [← hx2, List.getElem?_append_right (Nat.le_refl _), Nat.sub_self] at hy
          simp only [List.getElem?_cons_zero, Option.some.injEq] at hf hy
          subst hf hy
          refine ⟨⟨rfl, rfl, rfl, rfl, rfl, rfl, by dsimp only; omega, hown⟩, fun hne => ?_⟩
          dsimp only at hne ⊢
          refine ⟨by omega, by simp⟩
        · rw [List.getElem?_eq_none (by simp; omega)] at hf; cases hf
      · dsimp only
        intro y hy
        split at hy
        · exact h.sub y (dropO_mem hy)
        · obtain ⟨z, hz, e1, e2, e3, e4, e5⟩ := lessO_mem hy
          obtain ⟨x', hx', k1, k2, k3, k4, k5⟩ := h.sub z hz
          exact ⟨x', hx', by rw [e1, k1], by rw [e2, k2], by rw [e3, k3], by rw [e4, k4], by rw [e5, k5]⟩
      · dsimp only
        split
        · exact Nat.le_trans (dropO_sub _ _).length_le h.len
        · rw [lessO_len]; exact h.len
theorem way_run {o : Order} {l ms : List Order} (hm : ∀ y ∈ ms, 1 ≤ y.left) (ho : 0 ≤ o.left) : WayX o l ms (runX o l ms) := by
  have key : ∀ k, k ≤ ms.length → WayX o l (ms.take k) (runX o l (ms.take k)) := by
    intro k
    induction k with
    | zero => intro _; exact way_start o l ho
    | succ k ih =>
      intro hk
      obtain ⟨x, hx⟩ : ∃ x, ms[k]? = some x := ⟨ms[k]'(by omega), List.getElem?_eq_getElem (by omega)⟩
      have h1 := ih (by omega)
      have h2 := (runX_facts (o := o) (l := l) hm ho k (by omega)).1
      rw [runX_step hx, List.take_add_one, hx]
      exact way_step h1 (fun y hy => hm y (List.mem_of_mem_take hy)) (hm x (List.mem_of_getElem? hx)) h2 ho
  have := key ms.length (Nat.le_refl _)
  rw [List.take_length] at this
  exact this
theorem doV_way {how : Int} {o : Order} {l : List Order} (hB : BookB l) (h0 : wrongV how o l = 0) : WayX o l (meetsO how o l) (runX o l (meetsO how o l)) ∧ (doV how o l).fills = (runX o l (meetsO how o l)).fills ∧ (doV how o l).left = (runX o l (meetsO how o l)).left ∧ (doV how o l).err = 0 := by
  have hol := newB_left (wrong_new' h0)
  refine ⟨way_run (fun y hy => (hB.left y (meets_mem hy).1).1) (by omega), ?_⟩
  unfold doV
  rw [if_pos h0]
  exact ⟨rfl, rfl, rfl⟩
theorem doV_lens' {how : Int} {o : Order} {l : List Order} (hB : BookB l) : (doV how o l).fills.length ≤ 64 ∧ (doV how o l).gones.length ≤ 64 := by
  unfold doV
  split
  · rename_i h0
    have hol := newB_left (wrong_new' h0)
    have hml := meets_len how o l
    have hbl := hB.len
    have := runX_facts (o := o) (l := l) (ms := meetsO how o l) (fun x hx => (hB.left x (meets_mem hx).1).1) (by omega) (meetsO how o l).length (Nat.le_refl _)
    rw [List.take_length] at this
    dsimp only
    omega
  · simp
theorem doV_bad {how : Int} {o : Order} {l : List Order} (h0 : wrongV how o l ≠ 0) : doV how o l = ⟨[], [], 0, wrongV how o l, l⟩ := by unfold doV; rw [if_neg h0]
end Go.Proofs.YtakilgkpfjhfdaaGreat

namespace Go.Proofs.YtakilgkpfjhfdaaGreat
open Go Go.Sl
attribute [local irreducible] AW ES EP Ld RetQ
set_option maxRecDepth 100000
def idC (q : Quote) : List Value := [.int .i64 q.id]
theorem idC_one (q : Quote) : ∀ v ∈ idC q, v.oneCell' = true := List.all_eq_true.1 (rfl : (idC q).all Value.oneCell' = true)
theorem quo_Clear (W : World) (F : List Chunk) (p : Nat) (A : Option Addr) (c : Nat) (l : List Quote) (ask : Int) (hb : l.length ≤ 1000000) :
    FSpec Tryz.prog W 138 [.pointer (some ⟨p, 0, none⟩), .int .i64 ask] (quoTab p A c l F)
      (fun v h' => ∃ A' c', v = .slice A' (l.filter (isAsk ask)).length c' ∧ h' = .own A' (l.filter (isAsk ask)).length c' 2 1 ((l.filter (isAsk ask)).flatMap idC) :: quoTab p A c (l.filter fun x => !isAsk ask x) F ∧ OwnF A' (l.filter (isAsk ask)).length c' 1 ((l.filter (isAsk ask)).flatMap idC)) := by
  refine FSpec.dropF ?_
  refine spec_body Tryz.func138 rfl rfl Tryz.results138 Tryz.ntmps138 rfl rfl ?_
  refine aw_fact (h := quoTab p A c l F) mem1 (fun hl hnc hcc hsome hnone hone => ?_)
  have hall : ∀ g1, FSpec Tryz.prog W 74 [.pointer (some ⟨p, 0, none⟩), .func (.func 168) #[] #[.pointer (some ⟨g1, 0, none⟩)]] (.blk g1 2 [.int .i64 ask] :: quoTab p A c l F) _ := fun g1 =>
    quo_all W _ p A c l mem1 (Reads.own mem2 hl hone) hb _ [_] (isAsk ask) (fun x _ => (quo_Clear1 W x g1 ask).mono (by intro c hc; simp only [List.mem_cons, List.not_mem_nil, or_false] at hc; rcases hc with rfl; simp))
  have hfl := List.length_filter_le (isAsk ask) l
  generalize hfe : l.filter (isAsk ask) = fl at hall hfl ⊢
  repeat' (first | apply aw_seq | apply aw_region | apply aw_block | apply es_nil | apply es_pure hT; iterate 4 exact rfl | apply es_box; (iterate 5 exact rfl); intro g3 | apply es_call (hs := (hall _)); (iterate 7 exact rfl); rintro _ _ ⟨AO, cO, rfl, rfl, hf⟩)
  refine aw_conv (fun w hw => ⟨_, hw.own_nil 2 1, ?_⟩)
  refine aw_loop (α := Nat × Option Addr × Nat) (E := fun x => [(0, .pointer (some ⟨p, 0, none⟩)), (3, .pointer (some ⟨g3, 0, none⟩)), (5, .slice x.2.1 x.1 x.2.2), (10, .slice AO fl.length cO), (11, .int .i64 fl.length), (12, .int .i64 x.1)])
    (H := fun x => .own x.2.1 x.1 x.2.2 2 1 ((fl.take x.1).flatMap idC) :: .own AO fl.length cO 115 6 (fl.flatMap Quote.enc) :: .blk g3 2 [.int .i64 ask] :: quoTab p A c l F) (μ := fun x => fl.length - x.1)
    (S := fun x => x.1 ≤ fl.length) (0, none, 0) (J := []) (Nat.zero_le _) ⟨rfl, rfl, rfl, rfl, rfl, rfl, trivial⟩ (List.Perm.refl _) ?_
  rintro ⟨k, A5, c5⟩ hk
  dsimp only at hk ⊢
  by_cases hlt : k < fl.length
  · obtain ⟨x, hx⟩ : ∃ x, fl[k]? = some x := ⟨fl[k]'(by omega), List.getElem?_eq_getElem (by omega)⟩
    have hx2 : fl[(k : Int).toNat]? = some x := by simpa using hx
    have hA := hf.some_ (by omega)
    have hd1 : decide ((k : Int) < (fl.length : Int)) = true := by simp; omega
    repeat' (first | apply aw_seq | apply aw_region | apply aw_skip | apply aw_block | apply es_nil | apply es_pure hT; iterate 4 exact rfl | apply es_i64 hT; (iterate 4 exact rfl); (iterate 2 omega) | apply es_idx hT; (iterate 8 exact rfl); (iterate 2 omega); exact hA | apply es_load; (iterate 5 exact rfl); exact ld_elem hT rfl rfl (hf.reads mem1) Quote.enc_len rfl hx2 rfl | apply es_alloc hT; (iterate 5 exact rfl); intro g7 | apply es_store hT; (iterate 6 exact rfl); exact sel0; (iterate 3 exact rfl); exact nle rfl | apply es_buildSlice hT; (iterate 12 exact rfl); intro g | (apply es_append hT; (iterate 10 exact rfl); (first | exact selS sel1 ); exact Reads.own mem0 rfl (idC_one x); omega; (show (_ : Nat) * 8 ≤ _; omega); intro A' c') | (apply es_load; (iterate 5 exact rfl); first | exact ld_blk hT rfl rfl mem0 rfl rfl ) | (apply aw_cond; exact rfl; all_goals (intro hb; (try simp only [hb]); (first | replace hb := odt hb | replace hb := odf hb ); (try omega))))
    refine loopq_end (k + 1, A', c') (by dsimp only; omega) (by dsimp only; omega) ⟨rfl, rfl, rfl, rfl, rfl, rfl, trivial⟩ ?_
    dsimp only
    rw [List.take_add_one, hx, List.flatMap_append]
    apply dt_cons; (first | exact sel0)
    apply dt_cons; (first | exact selS sel1)
    apply dt_cons; (first | exact selS sel1)
    apply dt_cons; (first | exact selS sel1)
    apply dt_cons; (first | exact selS sel1)
    (repeat (first | exact dt_end | apply dt_skip))
  · obtain rfl : k = fl.length := by omega
    have hd1 : decide ((fl.length : Int) < (fl.length : Int)) = false := by simp
    rw [List.take_length]
    have hdel : FSpec Tryz.prog W 169 [.slice A l.length c, .func (.func 170) #[] #[.pointer (some ⟨g3, 0, none⟩)]] (.own A5 fl.length c5 2 1 (fl.flatMap idC) :: .own AO fl.length cO 115 6 (fl.flatMap Quote.enc) :: .blk g3 2 [.int .i64 ask] :: quoTab p A c l F) _ :=
      (deleteFuncQuote W (.own A5 fl.length c5 2 1 (fl.flatMap idC) :: .own AO fl.length cO 115 6 (fl.flatMap Quote.enc) :: .blk g3 2 [.int .i64 ask] :: .blk p 129 [.slice A l.length c] :: F) A c l _ [_] (isAsk ask)
        (fun x _ => (quo_Clear2 W x g3 ask).mono (by intro c hc; simp only [List.mem_cons, List.not_mem_nil, or_false] at hc; rcases hc with rfl; simp)) hb).perm (selS (selS (selS (selS sel0))))
    repeat' (first | apply aw_seq | apply aw_region | apply aw_ret | apply aw_exit | apply es_nil | apply es_pure hT; iterate 4 exact rfl | apply es_call (hs := hdel); (iterate 7 exact rfl); rintro _ _ ⟨rfl, rfl⟩ | (apply es_store hT; (iterate 6 exact rfl); (first | exact selS (selS (selS sel1)) ); (iterate 3 exact rfl); exact nle rfl) | (apply es_load; (iterate 5 exact rfl); first | exact ld_blk hT rfl rfl mem3 rfl rfl ) | apply aw_condT; iterate 2 exact rfl | (apply aw_cond; exact rfl; all_goals (intro hb; (try simp only [hb]); (first | replace hb := odt hb | replace hb := odf hb ); (try omega))))
    apply ret1; exact rfl
    refine ⟨.own A5 fl.length c5 2 1 (fl.flatMap idC) :: quoTab p A c (l.filter fun x => !isAsk ask x) F, ?_, fun w hw => ⟨A5, c5, rfl, rfl, hw.ownF mem0⟩⟩
    apply dt_cons; (first | exact selS sel1)
    apply dt_cons; (first | exact sel0)
    apply dt_cons; (first | exact sel0)
    (repeat (first | exact dt_end | apply dt_skip))
end Go.Proofs.YtakilgkpfjhfdaaGreat

namespace Go.Proofs.YtakilgkpfjhfdaaGreat
open Go Go.Sl
attribute [local irreducible] AW ES EP Ld RetQ
set_option maxRecDepth 100000
/-! ### the table's own law: of one ask and one dealer one is live at most -/
def oneQ (l : List Quote) : Prop := l.Pairwise fun a b => a.live = true → b.live = true → ¬ (a.ask = b.ask ∧ a.dealer = b.dealer)
structure TabQ (l : List Quote) : Prop where
  up : upQ l
  one : oneQ l
theorem offQ_id (q x : Quote) : (offQ q x).id = x.id := by unfold offQ; split <;> rfl
theorem offQ_ask (q x : Quote) : (offQ q x).ask = x.ask := by unfold offQ; split <;> rfl
theorem offQ_dealer (q x : Quote) : (offQ q x).dealer = x.dealer := by unfold offQ; split <;> rfl
theorem offQ_live {q x : Quote} (h : (offQ q x).live = true) : x.live = true ∧ ¬ (x.ask = q.ask ∧ x.dealer = q.dealer) := by
  unfold offQ at h
  split at h
  · cases h
  · rename_i hm
    refine ⟨h, fun e => hm ?_⟩
    simp [metQ, e.1, e.2, h]
theorem bsB_false {id : Int} {l : List Quote} (hup : upQ l) (h : bsB (cQ id) l = false) : ∀ x ∈ l, x.id ≠ id := by
  intro x hx he
  obtain ⟨i, hi⟩ := List.getElem?_of_mem hx
  have hb : bsN (cQ id) l = i := bsN_eq (by have := (List.getElem?_eq_some_iff.1 hi).1; omega) (fun k y hk hy => by
    rw [cQ_neg]
    obtain ⟨h1, rfl⟩ := List.getElem?_eq_some_iff.1 hi
    obtain ⟨h2, rfl⟩ := List.getElem?_eq_some_iff.1 hy
    have := List.pairwise_iff_getElem.1 hup k i h2 h1 hk
    omega) (fun y hy => by rw [hi] at hy; cases hy; rw [cQ_neg]; omega)
  unfold bsB at h
  rw [hb, hi] at h
  simp [cQ, cmpI, he] at h
theorem putQ_tab {q : Quote} {l : List Quote} (h : TabQ l) : TabQ (putQ q l) := by
  unfold putQ
  split
  · exact h
  · rename_i hb
    have hbad : badQ q l = false := by simpa using hb
    simp only [badQ, Bool.or_eq_false_iff] at hbad
    have hB := hbad.1.1.1.1.1
    have hne := bsB_false h.up hB
    have hup2 : upQ (l.map (offQ q)) := by
      unfold upQ; rw [List.pairwise_map]
      exact h.up.imp (fun {a b} hab => by rw [offQ_id, offQ_id]; exact hab)
    have hone2 : oneQ (l.map (offQ q)) := by
      unfold oneQ; rw [List.pairwise_map]
      exact h.one.imp (fun {a b} hab ha hb => by rw [offQ_ask, offQ_ask, offQ_dealer, offQ_dealer]; exact hab (offQ_live ha).1 (offQ_live hb).1)
    have hbs : bsN (cQ q.id) l = ((l.map (offQ q)).takeWhile fun x => decide (x.id < q.id)).length := by
      unfold bsN
      rw [List.takeWhile_map, List.length_map]
      congr 2
      funext x
      simp only [Function.comp, offQ_id]
      exact decide_eq_decide.2 cQ_neg
    refine ⟨ins_up (f := Quote.id) hup2 (fun x hx => ?_) hbs, ?_⟩
    · obtain ⟨y, hy, rfl⟩ := List.mem_map.1 hx
      rw [offQ_id]; exact hne y hy
    · refine ((ins_perm (l.map (offQ q)) q _).pairwise_iff (fun {a b} hab ha hb hk => hab hb ha ⟨hk.1.symm, hk.2.symm⟩)).2 ?_
      rw [List.pairwise_cons]
      refine ⟨fun x hx _ hxl hk => ?_, hone2⟩
      obtain ⟨y, hy, rfl⟩ := List.mem_map.1 hx
      rw [offQ_ask, offQ_dealer] at hk
      exact (offQ_live hxl).2 ⟨hk.1.symm, hk.2.symm⟩
theorem putQ_len {q : Quote} {l : List Quote} : (putQ q l).length ≤ l.length + 1 := by
  unfold putQ
  split
  · omega
  · simp; omega
end Go.Proofs.YtakilgkpfjhfdaaGreat

namespace Go.Proofs.YtakilgkpfjhfdaaGreat
open Go Go.Sl
attribute [local irreducible] AW ES EP Ld RetQ
set_option maxRecDepth 100000
structure Act18 where
  kind : Int
  ask : AskR
def Act18.enc (a : Act18) : List Value := .int .i64 a.kind :: a.ask.enc
theorem Act18.enc_len (a : Act18) : a.enc.length = 11 := rfl
end Go.Proofs.YtakilgkpfjhfdaaGreat

namespace Go.Proofs.YtakilgkpfjhfdaaGreat
open Go Go.Sl
attribute [local irreducible] AW ES EP Ld RetQ
set_option maxRecDepth 100000
theorem bsA_at {l : List AskR} (hup : upA l) {i : Nat} {x : AskR} (hi : l[i]? = some x) : bsN (cA x.id) l = i ∧ bsB (cA x.id) l = true := by
  have hb : bsN (cA x.id) l = i := bsN_eq (by have := (List.getElem?_eq_some_iff.1 hi).1; omega) (fun k y hk hy => by
    rw [cA_neg]
    obtain ⟨h1, rfl⟩ := List.getElem?_eq_some_iff.1 hi
    obtain ⟨h2, rfl⟩ := List.getElem?_eq_some_iff.1 hy
    exact List.pairwise_iff_getElem.1 hup k i h2 h1 hk) (fun y hy => by rw [hi] at hy; cases hy; rw [cA_neg]; omega)
  refine ⟨hb, ?_⟩
  unfold bsB
  rw [hb, hi]
  simp [cA, cmpI]
end Go.Proofs.YtakilgkpfjhfdaaGreat

namespace Go.Proofs.YtakilgkpfjhfdaaGreat
open Go Go.Sl
attribute [local irreducible] AW ES EP Ld RetQ
set_option maxRecDepth 100000
theorem setA_up {id : Int} {l : List AskR} {x y : AskR} (hup : upA l) (hx : l[bsN (cA id) l]? = some x) (he : y.id = x.id) : upA (setA id y l) := by
  unfold upA setA at *
  rw [← List.pairwise_map (f := AskR.id) (R := (· < ·))] at hup ⊢
  obtain ⟨hlt, hxe⟩ := List.getElem?_eq_some_iff.1 hx
  have : (l.set (bsN (cA id) l) y).map AskR.id = l.map AskR.id := by
    rw [List.map_set, he, ← hxe]
    apply List.ext_getElem?
    intro i
    by_cases hi : bsN (cA id) l = i
    · subst hi; rw [List.getElem?_set_self (by simpa using hlt)]; simp [hlt]
    · rw [List.getElem?_set_ne hi]
  rw [this]; exact hup
theorem addA_up {a : AskR} {l : List AskR} (h : upA l) : upA (addA a l) := by
  unfold addA
  split
  · rename_i h0
    have hB : bsB (cA a.id) l = false := by
      cases hB : bsB (cA a.id) l
      · rfl
      · simp [addE, hB] at h0
    refine ins_up (f := AskR.id) h (fun x hx => ?_) (by
      unfold bsN
      congr 2
      funext x
      exact decide_eq_decide.2 cA_neg)
    intro he
    obtain ⟨i, hi⟩ := List.getElem?_of_mem hx
    have := (bsA_at h hi).2
    rw [he, hB] at this; cases this
  · exact h
theorem addA_len {a : AskR} {l : List AskR} : (addA a l).length ≤ l.length + 1 := by
  unfold addA; split
  · simp; omega
  · omega
theorem gotX {id : Int} {l : List AskR} {x : AskR} (h : getA id l = some x) : l[bsN (cA id) l]? = some x := by
  unfold getA at h; split at h
  · exact h
  · cases h
theorem lookA_ok {id quote until_ : Int} {l : List AskR} (h : upA l) : upA (lookA id quote until_ l) ∧ (lookA id quote until_ l).length = l.length := by
  unfold lookA
  split
  · exact ⟨h, rfl⟩
  · rename_i x hx
    split
    · exact ⟨setA_up h (gotX hx) rfl, by simp [setA]⟩
    · exact ⟨h, rfl⟩
theorem backA_ok {id : Int} {l : List AskR} (h : upA l) : upA (backA id l) ∧ (backA id l).length = l.length := by
  unfold backA
  split
  · exact ⟨h, rfl⟩
  · rename_i x hx
    split
    · exact ⟨setA_up h (gotX hx) rfl, by simp [setA]⟩
    · exact ⟨h, rfl⟩
theorem endA_ok {id state : Int} {l : List AskR} (h : upA l) : upA (endA id state l) ∧ (endA id state l).length = l.length := by
  unfold endA
  split
  · exact ⟨h, rfl⟩
  · rename_i x hx
    split
    · exact ⟨setA_up h (gotX hx) (by unfold endX; split <;> rfl), by simp [setA]⟩
    · exact ⟨h, rfl⟩
end Go.Proofs.YtakilgkpfjhfdaaGreat

namespace Go.Proofs.YtakilgkpfjhfdaaGreat
open Go Go.Sl
def ltD (a b : Due) : Prop := a.tick < b.tick ∨ (a.tick = b.tick ∧ (a.kind < b.kind ∨ (a.kind = b.kind ∧ a.id < b.id)))
def keyD (a b : Due) : Prop := a.kind = b.kind ∧ a.id = b.id
theorem ordD_neg {a b : Due} : ordD a b < 0 ↔ ltD a b := by
  unfold ordD ltD
  simp only [orI, cmpI]
  repeat' split
  all_goals omega
theorem ltD_trans {a b c : Due} (h1 : ltD a b) (h2 : ltD b c) : ltD a c := by unfold ltD at *; omega
theorem ltD_total {a b : Due} (h1 : ¬ ltD a b) (h2 : ¬ keyD a b) : ltD b a := by unfold ltD keyD at *; omega
structure RowD (l : List Due) : Prop where
  up : l.Pairwise ltD
  once : l.Pairwise fun a b => ¬ keyD a b
theorem hasD_iff {kind id : Int} {d : Due} : hasD kind id d = true ↔ d.kind = kind ∧ d.id = id := by simp [hasD]
theorem idxOf_neg {α : Type} {p : α → Bool} {l : List α} : idxOf p l < 0 ↔ ∀ x ∈ l, p x = false := by
  constructor
  · intro h x hx
    induction l with
    | nil => cases hx
    | cons y l ih =>
      unfold idxOf at h
      split at h
      · omega
      · rename_i hp
        have h1 : idxOf p l < 0 := by
          simp only at h
          split at h
          · assumption
          · omega
        rcases List.mem_cons.1 hx with rfl | hx
        · simpa using hp
        · exact ih h1 hx
  · intro h
    have := idxOf_none (p := p) (l := l) (fun j y hj => h y (List.mem_of_getElem? hj))
    omega
theorem idxOf_get {α : Type} {p : α → Bool} : ∀ {l : List α} {i : Nat}, idxOf p l = (i : Int) → ∃ x, l[i]? = some x ∧ p x = true
  | [], i, h => by simp [idxOf] at h
  | y :: l, i, h => by
    unfold idxOf at h
    split at h
    · rename_i hp; obtain rfl : i = 0 := by omega
      exact ⟨y, rfl, hp⟩
    · simp only at h
      split at h
      · omega
      · obtain ⟨k, rfl⟩ : ∃ k, i = k + 1 := ⟨i - 1, by omega⟩
        obtain ⟨x, hx, hpx⟩ := idxOf_get (p := p) (l := l) (i := k) (by omega)
        exact ⟨x, by simpa using hx, hpx⟩
theorem RowD.mono {l : List Due} (h : RowD l) {d : Due} : ∀ (i j : Nat) x y, i ≤ j → l[i]? = some x → l[j]? = some y → ordD y d < 0 → ordD x d < 0 := by
  intro i j x y hij hx hy hd
  rw [ordD_neg] at *
  rcases Nat.lt_or_ge i j with hlt | hge
  · obtain ⟨hi, rfl⟩ := List.getElem?_eq_some_iff.1 hx
    obtain ⟨hj, rfl⟩ := List.getElem?_eq_some_iff.1 hy
    exact ltD_trans (List.pairwise_iff_getElem.1 h.up i j hi hj hlt) hd
  · obtain rfl : i = j := by omega
    rw [hx] at hy; cases hy; exact hd
theorem insD_perm (l : List Due) (d : Due) : (insD l d).Perm (d :: l) := by
  unfold insD
  rw [List.append_assoc, List.singleton_append]
  exact List.perm_middle.trans (by rw [List.take_append_drop])
theorem insD_mem {l : List Due} {d x : Due} : x ∈ insD l d ↔ x = d ∨ x ∈ l := by rw [(insD_perm l d).mem_iff]; simp
theorem insD_row {l : List Due} {d : Due} (h : RowD l) (hn : ∀ x ∈ l, ¬ keyD x d) : RowD (insD l d) := by
  constructor
  · unfold insD
    have hl : ∀ x ∈ l.take (bsN (ordD · d) l), ltD x d := fun x hx => by
      have := take_while_all (p := fun x => decide (ordD x d < 0)) (l := l) x hx
      exact ordD_neg.1 (by simpa using this)
    have hsplit : l.take (bsN (ordD · d) l) ++ l.drop (bsN (ordD · d) l) = l := List.take_append_drop _ _
    have hp := h.up
    rw [← hsplit, List.pairwise_append] at hp
    obtain ⟨p1, p2, p3⟩ := hp
    have hr : ∀ y ∈ l.drop (bsN (ordD · d) l), ltD d y := fun y hy => by
      cases hm : l.drop (bsN (ordD · d) l) with
      | nil => rw [hm] at hy; cases hy
      | cons z m =>
        have hz := drop_while_head (p := fun x => decide (ordD x d < 0)) (l := l) hm
        have hzl : z ∈ l := List.mem_of_mem_drop (by rw [hm]; simp)
        have hdz : ltD d z := ltD_total (fun e => by have := ordD_neg.2 e; simp at hz; omega) (fun e => hn z hzl e)
        rw [hm] at hy p2
        rcases List.mem_cons.1 hy with rfl | hy
        · exact hdz
        · exact ltD_trans hdz (List.rel_of_pairwise_cons p2 hy)
    rw [List.append_assoc, List.pairwise_append]
    refine ⟨p1, ?_, fun x hx y hy => ?_⟩
    · rw [List.singleton_append, List.pairwise_cons]
      exact ⟨hr, p2⟩
    · rw [List.singleton_append] at hy
      rcases List.mem_cons.1 hy with rfl | hy
      · exact hl x hx
      · exact p3 x hx y hy
  · refine ((insD_perm l d).pairwise_iff (fun {a b} hab hk => hab ⟨hk.1.symm, hk.2.symm⟩)).2 ?_
    rw [List.pairwise_cons]
    exact ⟨fun x hx hk => hn x hx ⟨hk.1.symm, hk.2.symm⟩, h.once⟩
theorem addD_row {l : List Due} {d : Due} (h : RowD l) : RowD (addD l d) := by
  unfold addD
  split
  · rename_i hi
    rw [idxOf_neg] at hi
    exact insD_row h (fun x hx hk => by have := hi x hx; simp [hasD, hk.1, hk.2] at this)
  · exact h
theorem addD_has {l : List Due} {d : Due} : ∃ x ∈ addD l d, keyD x d := by
  unfold addD
  split
  · exact ⟨d, insD_mem.2 (.inl rfl), rfl, rfl⟩
  · rename_i hi
    rw [idxOf_neg] at hi
    simp only [Classical.not_forall, Bool.not_eq_false] at hi
    obtain ⟨x, hx, hp⟩ := hi
    exact ⟨x, hx, hasD_iff.1 hp⟩
theorem addD_keep {l : List Due} {d x : Due} (hx : x ∈ l) : x ∈ addD l d := by
  unfold addD
  split
  · exact insD_mem.2 (.inr hx)
  · exact hx
theorem addD_from {l : List Due} {d x : Due} (hx : x ∈ addD l d) : x = d ∨ x ∈ l := by
  unfold addD at hx
  split at hx
  · exact insD_mem.1 hx
  · exact .inr hx
theorem addD_len {l : List Due} {d : Due} : (addD l d).length ≤ l.length + 1 ∧ l.length ≤ (addD l d).length := by
  unfold addD
  split
  · rw [insD_len]; omega
  · omega
theorem RowD.nil : RowD [] := ⟨List.Pairwise.nil, List.Pairwise.nil⟩
theorem RowD.sub {l m : List Due} (h : RowD l) (hs : m.Sublist l) : RowD m := ⟨h.up.sublist hs, h.once.sublist hs⟩
theorem dropD_sub {l : List Due} {kind id : Int} : (dropD l kind id).Sublist l := by
  unfold dropD
  split
  · exact List.Sublist.refl _
  · exact List.eraseIdx_sublist _ _
theorem dropD_none {l : List Due} {kind id : Int} (h : RowD l) : ∀ x ∈ dropD l kind id, ¬ (x.kind = kind ∧ x.id = id) := by
  unfold dropD
  split
  · rename_i hi
    rw [idxOf_neg] at hi
    intro x hx hk
    have := hi x hx
    rw [hasD_iff.2 hk] at this
    cases this
  · rename_i hi
    obtain ⟨k, hk⟩ : ∃ k : Nat, idxOf (hasD kind id) l = k := ⟨(idxOf (hasD kind id) l).toNat, by omega⟩
    obtain ⟨y, hy, hpy⟩ := idxOf_get hk
    rw [hasD_iff] at hpy
    rw [hk, Int.toNat_natCast]
    intro x hx hkx
    obtain ⟨i, hxi, hge⟩ : ∃ i, l[i]? = some x ∧ i ≠ k := by
      obtain ⟨i, hi2⟩ := List.getElem?_of_mem hx
      rw [List.getElem?_eraseIdx] at hi2
      split at hi2
      · exact ⟨i, hi2, by omega⟩
      · exact ⟨i + 1, hi2, by omega⟩
    obtain ⟨hi1, rfl⟩ := List.getElem?_eq_some_iff.1 hxi
    obtain ⟨hk1, rfl⟩ := List.getElem?_eq_some_iff.1 hy
    rcases Nat.lt_or_gt_of_ne hge with hlt | hlt
    · exact List.pairwise_iff_getElem.1 h.once i k hi1 hk1 hlt ⟨hkx.1.trans hpy.1.symm, hkx.2.trans hpy.2.symm⟩
    · exact List.pairwise_iff_getElem.1 h.once k i hk1 hi1 hlt ⟨hpy.1.trans hkx.1.symm, hpy.2.trans hkx.2.symm⟩
theorem takeN_tick {l : List Due} {tick : Int} {x : Due} (h : x ∈ l.take (takeN l tick)) : x.tick ≤ tick := by
  have := take_while_all (p := fun d : Due => decide (d.tick ≤ tick)) (l := l) x h
  simpa using this
def I64 (n : Int) : Prop := -9223372036854775808 ≤ n ∧ n ≤ 9223372036854775807
def Due.ok (d : Due) : Prop := I64 d.tick ∧ I64 d.kind ∧ I64 d.id
end Go.Proofs.YtakilgkpfjhfdaaGreat

namespace Go.Proofs.YtakilgkpfjhfdaaGreat
open Go Go.Sl
/-! ### lists -/
theorem mem_set_or {α : Type} {l : List α} {i : Nat} {x y : α} (h : y ∈ l.set i x) : y = x ∨ y ∈ l := (List.mem_or_eq_of_mem_set h).symm
theorem getA_mem {id : Int} {l : List AskR} {a : AskR} (h : getA id l = some a) : a ∈ l ∧ a.id = id := by
  unfold getA at h
  split at h
  · rename_i hb
    obtain ⟨x, hx, hi, _⟩ := getA_some hb
    rw [hx] at h
    cases h
    exact ⟨List.mem_of_getElem? hx, hi⟩
  · cases h
theorem getQ_mem {id : Int} {l : List Quote} {q : Quote} (h : getQ id l = some q) : q ∈ l ∧ q.id = id := by
  unfold getQ at h
  split at h
  · rename_i hb
    obtain ⟨x, hx, hi, _⟩ := getQ_some hb
    rw [hx] at h
    cases h
    exact ⟨List.mem_of_getElem? hx, hi⟩
  · cases h
def sameA (x y : AskR) : Prop := y.id = x.id ∧ y.client = x.client ∧ y.bond = x.bond ∧ y.side = x.side ∧ y.qty = x.qty ∧ y.dealers = x.dealers ∧ y.ends = x.ends
theorem setA_from {id : Int} {l : List AskR} {x z y : AskR} (hx : getA id l = some x) (hs : sameA x z) (h : y ∈ setA id z l) : ∃ u ∈ l, sameA u y := by
  rcases mem_set_or h with rfl | h
  · exact ⟨x, (getA_mem hx).1, hs⟩
  · exact ⟨y, h, rfl, rfl, rfl, rfl, rfl, rfl, rfl⟩
theorem self_from {l : List AskR} {y : AskR} (h : y ∈ l) : ∃ u ∈ l, sameA u y := ⟨y, h, rfl, rfl, rfl, rfl, rfl, rfl, rfl⟩
theorem lookA_from {id quote until_ : Int} {l : List AskR} {y : AskR} (h : y ∈ lookA id quote until_ l) : ∃ u ∈ l, sameA u y := by
  unfold lookA at h
  split at h
  · exact self_from h
  · rename_i x hx
    split at h
    · exact setA_from hx (by exact ⟨rfl, rfl, rfl, rfl, rfl, rfl, rfl⟩) h
    · exact self_from h
theorem backA_from {id : Int} {l : List AskR} {y : AskR} (h : y ∈ backA id l) : ∃ u ∈ l, sameA u y := by
  unfold backA at h
  split at h
  · exact self_from h
  · rename_i x hx
    split at h
    · exact setA_from hx (by exact ⟨rfl, rfl, rfl, rfl, rfl, rfl, rfl⟩) h
    · exact self_from h
theorem endX_same (state : Int) (x : AskR) : sameA x (endX state x) := by
  unfold endX
  split <;> exact ⟨rfl, rfl, rfl, rfl, rfl, rfl, rfl⟩
theorem endA_from {id state : Int} {l : List AskR} {y : AskR} (h : y ∈ endA id state l) : ∃ u ∈ l, sameA u y := by
  unfold endA at h
  split at h
  · exact self_from h
  · rename_i x hx
    split at h
    · exact setA_from hx (endX_same _ _) h
    · exact self_from h
def sameQ (x y : Quote) : Prop := y.id = x.id ∧ y.ask = x.ask ∧ y.dealer = x.dealer ∧ y.price = x.price ∧ y.expires = x.expires
theorem selfQ {l : List Quote} {y : Quote} (h : y ∈ l) : ∃ u ∈ l, sameQ u y := ⟨y, h, rfl, rfl, rfl, rfl, rfl⟩
theorem killQ_from {id : Int} {l : List Quote} {y : Quote} (h : y ∈ killQ id l) : ∃ u ∈ l, sameQ u y := by
  unfold killQ at h
  split at h
  · rename_i x hx
    rcases mem_set_or h with rfl | h
    · exact ⟨x, (getQ_mem hx).1, rfl, rfl, rfl, rfl, rfl⟩
    · exact selfQ h
  · exact selfQ h
theorem killQ_len (id : Int) (l : List Quote) : (killQ id l).length = l.length := by
  unfold killQ
  split
  · simp
  · rfl
theorem killQ_up {id : Int} {l : List Quote} (h : upQ l) : upQ (killQ id l) := by
  unfold killQ
  split
  · rename_i x hx
    unfold getQ at hx
    split at hx
    · rename_i hb
      unfold upQ at h ⊢
      rw [List.pairwise_iff_getElem] at h ⊢
      intro i j hi hj hij
      simp only [List.length_set] at hi hj
      have := h i j hi hj hij
      have hid : ∀ k (hk : k < l.length), ((l.set (bsN (cQ id) l) { x with live := false })[k]'(by simpa using hk)).id = l[k].id := by
        intro k hk
        rw [List.getElem_set]
        split
        · rename_i he
          subst he
          rw [List.getElem?_eq_getElem hk] at hx
          cases hx
          rfl
        · rfl
      rw [hid i hi, hid j hj]
      exact this
    · cases hx
  · exact h
theorem pullQ_from {id dealer : Int} {l : List Quote} {y : Quote} (h : y ∈ pullQ id dealer l) : ∃ u ∈ l, sameQ u y := by
  unfold pullQ at h
  split at h
  · exact killQ_from h
  · exact selfQ h
theorem pullQ_len (id dealer : Int) (l : List Quote) : (pullQ id dealer l).length = l.length := by
  unfold pullQ
  split
  · exact killQ_len _ _
  · rfl
theorem pullQ_up {id dealer : Int} {l : List Quote} (h : upQ l) : upQ (pullQ id dealer l) := by
  unfold pullQ
  split
  · exact killQ_up h
  · exact h
theorem putQ_from {q : Quote} {l : List Quote} {y : Quote} (h : y ∈ putQ q l) : y = q ∨ ∃ u ∈ l, sameQ u y := by
  unfold putQ at h
  split at h
  · exact .inr (selfQ h)
  · have h2 : y ∈ l.map (offQ q) ∨ y = q := by
      rcases List.mem_append.1 h with h | h
      · rcases List.mem_append.1 h with h | h
        · exact .inl (List.mem_of_mem_take h)
        · exact .inr (List.mem_singleton.1 h)
      · exact .inl (List.mem_of_mem_drop h)
    rcases h2 with h2 | h2
    · obtain ⟨u, hu, rfl⟩ := List.mem_map.1 h2
      refine .inr ⟨u, hu, ?_⟩
      unfold offQ sameQ
      split <;> exact ⟨rfl, rfl, rfl, rfl, rfl⟩
    · exact .inl h2
theorem addA_from {a : AskR} {l : List AskR} {y : AskR} (h : y ∈ addA a l) : y = a ∨ y ∈ l := by
  unfold addA at h
  split at h
  · rcases List.mem_append.1 h with h | h
    · rcases List.mem_append.1 h with h | h
      · exact .inr (List.mem_of_mem_take h)
      · exact .inl (List.mem_singleton.1 h)
    · exact .inr (List.mem_of_mem_drop h)
  · exact .inr h
/-! ### books -/
theorem addO_mem {o y : Order} {l : List Order} (h : y ∈ addO o l) : y = o ∨ y ∈ l := by
  unfold addO at h
  split at h
  · rcases List.mem_append.1 h with h | h
    · exact .inr h
    · exact .inl (List.mem_singleton.1 h)
  · exact .inr h
theorem doV_mem {how : Int} {o y : Order} {l : List Order} (hB : BookB l) (h : y ∈ (doV how o l).bk) : (∃ x ∈ l, y.id = x.id ∧ y.seq = x.seq ∧ y.owner = x.owner) ∨ (y.id = o.id ∧ y.seq = o.seq ∧ y.owner = o.owner) := by
  by_cases h0 : wrongV how o l = 0
  · obtain ⟨hw, _⟩ := doV_way hB h0
    unfold doV at h
    rw [if_pos h0] at h
    dsimp only at h
    unfold restX at h
    split at h
    · rcases addO_mem h with rfl | h
      · exact .inr ⟨rfl, rfl, rfl⟩
      · obtain ⟨x, hx, a, b, _, _, c⟩ := hw.sub y h
        exact .inl ⟨x, hx, a, b, c⟩
    · obtain ⟨x, hx, a, b, _, _, c⟩ := hw.sub y h
      exact .inl ⟨x, hx, a, b, c⟩
  · rw [doV_bad h0] at h
    exact .inl ⟨y, h, rfl, rfl, rfl⟩
theorem sumQ_ge : ∀ {l : List FillR}, (∀ f ∈ l, 1 ≤ f.qty) → ∀ f ∈ l, f.qty ≤ sumQ l ∧ 0 ≤ sumQ l
  | [], _, f, hf => by cases hf
  | x :: l, h, f, hf => by
    have e : sumQ (x :: l) = x.qty + sumQ l := by simp [sumQ]
    have h0 : 0 ≤ sumQ l := by
      cases l with
      | nil => simp [sumQ]
      | cons y l => exact (sumQ_ge (fun f hf => h f (mcm _ hf)) y mcs).2
    have hx := h x mcs
    rcases List.mem_cons.1 hf with rfl | hf
    · omega
    · have := (sumQ_ge (fun f hf => h f (mcm _ hf)) f hf).1
      omega
theorem doV_fills {how : Int} {o : Order} {l : List Order} (hB : BookB l) : ∀ f ∈ (doV how o l).fills, 1 ≤ f.qty ∧ f.qty ≤ 1000000 := by
  by_cases h0 : wrongV how o l = 0
  · obtain ⟨hw, e1, e2, _⟩ := doV_way hB h0
    have hol := newB_left (wrong_new' h0)
    rw [e1]
    generalize runX o l (meetsO how o l) = s at *
    obtain ⟨xs, hsub, hlen, hf⟩ := hw.mks
    have hq : ∀ f ∈ s.fills, 1 ≤ f.qty := by
      intro f hfm
      obtain ⟨i, hi⟩ := List.getElem?_of_mem hfm
      have hil := (List.getElem?_eq_some_iff.1 hi).1
      exact (hf i f (xs[i]'(by omega)) hi (List.getElem?_eq_getElem _)).1.qty
    have hl0 : 0 ≤ s.left := by
      rw [hw.left]
      have : min o.left (sumL (othersOf o (meetsO how o l))) ≤ o.left := Int.min_le_left _ _
      omega
    intro f hfm
    have := (sumQ_ge hq f hfm).1
    rw [hw.sum] at this
    exact ⟨hq f hfm, by omega⟩
  · rw [doV_bad h0]
    intro f hf; cases hf
end Go.Proofs.YtakilgkpfjhfdaaGreat

namespace Go.Proofs.YtakilgkpfjhfdaaGreat
open Go Go.Sl
def AskOK (s : Dk) (a : AskR) : Prop := (1 ≤ a.id ∧ a.id ≤ s.ask) ∧ (0 ≤ a.bond ∧ a.bond < s.bonds.length) ∧ isB a.side = true ∧ (1 ≤ a.qty ∧ a.qty ≤ 1000000) ∧ (0 ≤ a.client ∧ a.client < s.parties.length) ∧ (0 ≤ a.dealers ∧ a.dealers ≤ 18446744073709551615) ∧ (1 ≤ a.ends ∧ a.ends ≤ s.now + 1000)
def QuoteOK (s : Dk) (q : Quote) : Prop := (1 ≤ q.id ∧ q.id ≤ s.quote) ∧ (0 ≤ q.dealer ∧ q.dealer < s.parties.length) ∧ (1 ≤ q.price ∧ q.price ≤ 1000000) ∧ (1 ≤ q.expires ∧ q.expires ≤ s.now + 1000)
structure DOK (N : Nat) (s : Dk) : Prop where
  rules : isR s.bonds s.parties s.look s.beat = true
  nbk : s.books.length = s.bonds.length
  bks : ∀ l ∈ s.books, BookB l
  bid : ∀ l ∈ s.books, ∀ o ∈ l, o.id ≤ s.order ∧ o.seq ≤ s.seq
  order : 0 ≤ s.order ∧ s.order ≤ N
  seq : 0 ≤ s.seq ∧ s.seq ≤ N
  now : 0 ≤ s.now ∧ s.now ≤ N
  quote : 0 ≤ s.quote ∧ s.quote ≤ N
  ask : 0 ≤ s.ask ∧ s.ask ≤ N
  nus : s.used.length = s.parties.length
  us : ∀ u ∈ s.used, 0 ≤ u ∧ u ≤ 9223372036854775807
  upq : upQ s.quotes
  nq : s.quotes.length ≤ N
  qs : ∀ q ∈ s.quotes, QuoteOK s q
  upa : upA s.asks
  na : s.asks.length ≤ N
  as_ : ∀ a ∈ s.asks, AskOK s a
  row : RowD s.due
  nd : s.due.length ≤ N
  ncash : s.cash.length = s.parties.length
  cash : ∀ n ∈ s.cash, inW n
  npos : s.pos.length = s.parties.length
  pos : ∀ r ∈ s.pos, r.length = s.bonds.length ∧ ∀ n ∈ r, inW n
  nt : s.trades.length ≤ 64 * N
  head : 0 ≤ s.head ∧ s.head ≤ 18446744073709551615
theorem AskOK.mono {s t : Dk} {a : AskR} (h : AskOK s a) (h1 : s.ask ≤ t.ask) (h2 : t.bonds.length = s.bonds.length) (h3 : t.parties.length = s.parties.length) (h4 : s.now ≤ t.now) : AskOK t a := by
  obtain ⟨⟨a1, a2⟩, ⟨b1, b2⟩, c, d, ⟨e1, e2⟩, f, ⟨g1, g2⟩⟩ := h
  exact ⟨⟨a1, by omega⟩, ⟨b1, by omega⟩, c, d, ⟨e1, by omega⟩, f, ⟨g1, by omega⟩⟩
theorem AskOK.same {s : Dk} {x y : AskR} (h : AskOK s x) (hs : sameA x y) : AskOK s y := by
  obtain ⟨a, b, c, d, e, f, g⟩ := hs
  unfold AskOK at *
  rw [a, b, c, d, e, f, g]; exact h
theorem QuoteOK.mono {s t : Dk} {q : Quote} (h : QuoteOK s q) (h1 : s.quote ≤ t.quote) (h3 : t.parties.length = s.parties.length) (h4 : s.now ≤ t.now) : QuoteOK t q := by
  obtain ⟨⟨a1, a2⟩, ⟨b1, b2⟩, c, ⟨d1, d2⟩⟩ := h
  exact ⟨⟨a1, by omega⟩, ⟨b1, by omega⟩, c, ⟨d1, by omega⟩⟩
theorem QuoteOK.same {s : Dk} {x y : Quote} (h : QuoteOK s x) (hs : sameQ x y) : QuoteOK s y := by
  obtain ⟨a, b, c, d, e⟩ := hs
  unfold QuoteOK at *
  rw [a, c, d, e]; exact h
theorem DOK.up {N : Nat} {s : Dk} (h : DOK N s) : DOK (N + 1) s := by
  obtain ⟨h1, h2, h3, h4, h5, h6, h7, h8, h9, h10, h11, h12, h13, h14, h15, h16, h17, h18, h19, h20, h21, h22, h23, h24, h25⟩ := h
  exact ⟨h1, h2, h3, h4, by omega, by omega, by omega, by omega, by omega, h10, h11, h12, by omega, h14, h15, by omega, h17, h18, by omega, h20, h21, h22, h23, by omega, h25⟩
theorem DOK.ge {N M : Nat} {s : Dk} (h : DOK N s) (hM : N ≤ M) : DOK M s := by
  obtain ⟨h1, h2, h3, h4, h5, h6, h7, h8, h9, h10, h11, h12, h13, h14, h15, h16, h17, h18, h19, h20, h21, h22, h23, h24, h25⟩ := h
  exact ⟨h1, h2, h3, h4, by omega, by omega, by omega, by omega, by omega, h10, h11, h12, by omega, h14, h15, by omega, h17, h18, by omega, h20, h21, h22, h23, by omega, h25⟩
/-! ### parts -/
theorem DOK.turn {N : Nat} {s : Dk} (h : DOK N s) (qs : List Quote) (as' : List AskR) (ds : List Due) (hq : upQ qs) (hq1 : qs.length ≤ N) (hq2 : ∀ y ∈ qs, ∃ u ∈ s.quotes, sameQ u y)
    (ha : upA as') (ha1 : as'.length ≤ N) (ha2 : ∀ y ∈ as', ∃ u ∈ s.asks, sameA u y) (hd : RowD ds) (hd1 : ds.length ≤ N) : DOK N { s with quotes := qs, asks := as', due := ds } :=
  ⟨h.rules, h.nbk, h.bks, h.bid, h.order, h.seq, h.now, h.quote, h.ask, h.nus, h.us, hq, hq1, fun y hy => by
    obtain ⟨u, hu, hs⟩ := hq2 y hy
    exact ((h.qs u hu).mono (t := { s with quotes := qs, asks := as', due := ds }) (Int.le_refl _) rfl (Int.le_refl _)).same hs, ha, ha1, fun y hy => by
    obtain ⟨u, hu, hs⟩ := ha2 y hy
    exact ((h.as_ u hu).mono (t := { s with quotes := qs, asks := as', due := ds }) (Int.le_refl _) rfl rfl (Int.le_refl _)).same hs, hd, hd1, h.ncash, h.cash, h.npos, h.pos, h.nt, h.head⟩
theorem dropD_row {l : List Due} {kind id : Int} (h : RowD l) : RowD (dropD l kind id) := h.sub dropD_sub
theorem dropD_le (l : List Due) (kind id : Int) : (dropD l kind id).length ≤ l.length := dropD_sub.length_le
theorem dropsD_row : ∀ (qs : List Quote) {l : List Due}, RowD l → RowD (qs.foldl (fun l q => dropD l 3 q.id) l)
  | [], l, h => h
  | q :: qs, l, h => by rw [List.foldl_cons]; exact dropsD_row qs (dropD_row h)
theorem dropsD_le : ∀ (qs : List Quote) (l : List Due), (qs.foldl (fun l q => dropD l 3 q.id) l).length ≤ l.length
  | [], l => Nat.le_refl _
  | q :: qs, l => by
    rw [List.foldl_cons]
    exact Nat.le_trans (dropsD_le qs _) (dropD_le _ _ _)
theorem DOK.clear {N : Nat} {s : Dk} (h : DOK N s) (id : Int) : DOK N (clearD s id) :=
  h.turn _ s.asks _ (h.upq.filter _) (Nat.le_trans (List.length_filter_le _ _) h.nq) (fun y hy => selfQ (List.mem_filter.1 hy).1) h.upa h.na (fun y hy => self_from hy)
    (dropD_row (dropD_row (dropsD_row _ h.row))) (Nat.le_trans (dropD_le _ _ _) (Nat.le_trans (dropD_le _ _ _) (Nat.le_trans (dropsD_le _ _) h.nd)))
theorem DOK.asks {N : Nat} {s : Dk} (h : DOK N s) {as' : List AskR} (ha : upA as' ∧ as'.length = s.asks.length) (ha2 : ∀ y ∈ as', ∃ u ∈ s.asks, sameA u y) : DOK N { s with asks := as' } :=
  h.turn s.quotes as' s.due h.upq h.nq (fun y hy => selfQ hy) ha.1 (by rw [ha.2]; exact h.na) ha2 h.row h.nd
theorem DOK.dies {N : Nat} {s : Dk} (h : DOK N s) (a : AskR) : DOK N (diesD s a) := (h.asks (endA_ok h.upa) (fun y hy => endA_from hy)).clear a.id
theorem DOK.kill {N : Nat} {s : Dk} (h : DOK N s) (id : Int) {ds : List Due} (hd : RowD ds) (hd1 : ds.length ≤ N) : DOK N { s with quotes := killQ id s.quotes, due := ds } :=
  h.turn _ s.asks _ (killQ_up h.upq) (by rw [killQ_len]; exact h.nq) (fun y hy => killQ_from hy) h.upa h.na (fun y hy => self_from hy) hd hd1
theorem DOK.lookEnds {N : Nat} {rf : Bool} {s : Dk} (h : DOK N s) (a : AskR) : DOK N (lookEndsD rf s a).1 := by
  have h1 : DOK N { s with quotes := killQ a.hit s.quotes, due := if rf then dropD (dropD s.due 3 a.hit) 2 a.id else s.due } := by
    refine h.kill a.hit ?_ ?_
    · split
      · exact dropD_row (dropD_row h.row)
      · exact h.row
    · split
      · exact Nat.le_trans (dropD_le _ _ _) (Nat.le_trans (dropD_le _ _ _) h.nd)
      · exact h.nd
  unfold lookEndsD
  dsimp only
  split
  · exact h1.dies a
  · exact h1.asks (backA_ok h1.upa) (fun y hy => backA_from hy)
theorem DOK.dueOne {N : Nat} {rf : Bool} {s : Dk × List OutR} (h : DOK N s.1) (x : Due) : DOK N (dueD rf s x).1 := by
  unfold dueD
  split
  · exact h.kill x.id h.row h.nd
  · split
    · exact h
    · split
      · exact h.lookEnds _
      · split
        · exact h.dies _
        · exact h
theorem DOK.dueAll {N : Nat} {rf : Bool} : ∀ (xs : List Due) {s : Dk × List OutR}, DOK N s.1 → DOK N (xs.foldl (dueD rf) s).1
  | [], s, h => h
  | x :: xs, s, h => by rw [List.foldl_cons]; exact DOK.dueAll xs (h.dueOne x)
theorem DOK.tick {N : Nat} {rf : Bool} {s : Dk} (h : DOK N s) : DOK (N + 1) (tickD rf s).1 := by
  unfold tickD
  refine DOK.dueAll _ ?_
  have h' := h.up
  have hn := h.now
  exact ⟨h'.rules, h'.nbk, h'.bks, h'.bid, h'.order, h'.seq, ⟨by show 0 ≤ s.now + 1; omega, by show s.now + 1 ≤ ((N + 1 : Nat) : Int); omega⟩, h'.quote, h'.ask, h'.nus, h'.us, h'.upq, h'.nq,
    fun q hq => (h'.qs q hq).mono (Int.le_refl _) rfl (by show s.now ≤ s.now + 1; omega), h'.upa, h'.na, fun a ha => (h'.as_ a ha).mono (Int.le_refl _) rfl rfl (by show s.now ≤ s.now + 1; omega),
    h'.row.sub (List.drop_sublist _ _), Nat.le_trans (List.drop_sublist _ _).length_le h'.nd, h'.ncash, h'.cash, h'.npos, h'.pos, h'.nt, h'.head⟩
theorem DOK.books {N : Nat} {s : Dk} (h : DOK N s) {bs : List (List Order)} (h1 : bs.length = s.books.length) (h2 : ∀ l ∈ bs, BookB l) (h3 : ∀ l ∈ bs, ∀ o ∈ l, o.id ≤ s.order ∧ o.seq ≤ s.seq) : DOK N { s with books := bs } :=
  ⟨h.rules, h1.trans h.nbk, h2, h3, h.order, h.seq, h.now, h.quote, h.ask, h.nus, h.us, h.upq, h.nq, h.qs, h.upa, h.na, h.as_, h.row, h.nd, h.ncash, h.cash, h.npos, h.pos, h.nt, h.head⟩
/-! ### trades -/
theorem putP_len (p : Ps) (t : TradeR) : (putP p t).cash.length = p.cash.length ∧ (putP p t).pos.length = p.pos.length := by
  unfold putP setRow
  split <;> simp
theorem at0_mem {α : Type} {l : List α} {i : Int} {x : α} (h : at0 l i = some x) : x ∈ l := by
  unfold at0 at h
  split at h
  · cases h
  · exact List.mem_of_getElem? h
theorem setRow_ok {l : List (List Int)} {who bond n : Int} {b : Nat} (h : ∀ r ∈ l, r.length = b ∧ ∀ n ∈ r, inW n) (hw : 0 ≤ who ∧ who < l.length) (hn : inW n) : ∀ r ∈ setRow l who bond n, r.length = b ∧ ∀ n ∈ r, inW n := by
  intro r hr
  unfold setRow at hr
  rcases mem_set_or hr with rfl | hr
  · have hx : at0 l who = some (l[who.toNat]'(by omega)) := by
      unfold at0
      rw [if_neg (by omega)]
      exact List.getElem?_eq_getElem _
    obtain ⟨h1, h2⟩ := h _ (at0_mem hx)
    rw [hx]
    refine ⟨by simpa using h1, fun m hm => ?_⟩
    rcases mem_set_or hm with rfl | hm
    · exact hn
    · exact h2 m hm
  · exact h r hr
theorem putP_ok {p : Ps} {t : TradeR} {b : Nat} (hl : p.pos.length = p.cash.length) (hc : ∀ n ∈ p.cash, inW n) (hp : ∀ r ∈ p.pos, r.length = b ∧ ∀ n ∈ r, inW n) : (∀ n ∈ (putP p t).cash, inW n) ∧ ∀ r ∈ (putP p t).pos, r.length = b ∧ ∀ n ∈ r, inW n := by
  unfold putP
  split
  · rename_i h0
    unfold putE at h0
    split at h0
    · cases h0
    · rename_i h1
      split at h0
      · rename_i h2
        simp only [Bool.and_eq_true] at h2
        obtain ⟨⟨⟨⟨a1, a2⟩, a3⟩, a4⟩, a5⟩ := h2
        have hb : ∀ who, isPos p who t.bond = true → 0 ≤ who ∧ who < p.cash.length := fun who h => by
          unfold isPos at h
          simp only [Bool.and_eq_true, decide_eq_true_eq] at h
          exact ⟨h.1, h.2.1⟩
        have hb1 := hb t.buyer (by cases h : isPos p t.buyer t.bond with | true => rfl | false => exact absurd (.inl h) h1)
        have hb2 := hb t.seller (by cases h : isPos p t.seller t.bond with | true => rfl | false => exact absurd (.inr (.inl h)) h1)
        refine ⟨fun n hn => ?_, ?_⟩
        · rcases mem_set_or hn with rfl | hn
          · exact inI_t a5
          · rcases mem_set_or hn with rfl | hn
            · exact inI_t a4
            · exact hc n hn
        · refine setRow_ok (setRow_ok hp (by omega) (inI_t a2)) ?_ (inI_t a3)
          unfold setRow
          simp only [List.length_set]
          omega
      · cases h0
  · exact ⟨hc, hp⟩
theorem xor_lt64 {a b : Nat} (ha : a < 2 ^ 64) (hb : b < 2 ^ 64) : a ^^^ b < 2 ^ 64 := Nat.xor_lt_two_pow ha hb
theorem mixs_lt : ∀ (bs : List Nat) {x : Nat}, x < 2 ^ 64 → bs.foldl mixN x < 2 ^ 64
  | [], x, h => h
  | b :: bs, x, h => by
    rw [List.foldl_cons]
    exact mixs_lt bs (Nat.mod_lt _ (by decide))
theorem chainN_lt {last : Nat} {bs : List Nat} (h : last < 2 ^ 64) : chainN last bs < 2 ^ 64 := by
  unfold chainN
  have h1 : bs.foldl mixN (last ^^^ 1469598103934665603) < 2 ^ 64 := mixs_lt bs (xor_lt64 h (by decide))
  exact xor_lt64 h1 (Nat.lt_of_le_of_lt (Nat.div_le_self _ _) h1)
structure DOKt (N M : Nat) (s : Dk) : Prop where
  ok : DOK N { s with trades := [] }
  nt : s.trades.length ≤ M
theorem DOK.noT {N : Nat} {s : Dk} (h : DOK N s) : DOKt N (64 * N) s :=
  ⟨⟨h.rules, h.nbk, h.bks, h.bid, h.order, h.seq, h.now, h.quote, h.ask, h.nus, h.us, h.upq, h.nq, h.qs, h.upa, h.na, h.as_, h.row, h.nd, h.ncash, h.cash, h.npos, h.pos, Nat.zero_le _, h.head⟩, h.nt⟩
theorem DOKt.all {N M : Nat} {s : Dk} (h : DOKt N M s) (hM : M ≤ 64 * N) : DOK N s :=
  let h' := h.ok
  ⟨h'.rules, h'.nbk, h'.bks, h'.bid, h'.order, h'.seq, h'.now, h'.quote, h'.ask, h'.nus, h'.us, h'.upq, h'.nq, h'.qs, h'.upa, h'.na, h'.as_, h'.row, h'.nd, h'.ncash, h'.cash, h'.npos, h'.pos, Nat.le_trans h.nt hM, h'.head⟩
theorem DOKt.trade {N M : Nat} {s : Dk} (h : DOKt N M s) (t : TradeR) : DOKt N (M + 1) (tradeD s t) := by
  have h' := h.ok
  have hl := putP_len ⟨s.cash, s.pos⟩ t
  have ho := putP_ok (p := ⟨s.cash, s.pos⟩) (t := t) (b := s.bonds.length) (h'.npos.trans h'.ncash.symm) h'.cash h'.pos
  have hh : s.head.toNat < 2 ^ 64 := by have h9 : 0 ≤ s.head ∧ s.head ≤ 18446744073709551615 := h'.head; show s.head.toNat < 18446744073709551616; omega
  have hc := chainN_lt (bs := bytesT t) hh
  refine ⟨⟨h'.rules, h'.nbk, h'.bks, h'.bid, h'.order, h'.seq, h'.now, h'.quote, h'.ask, h'.nus, h'.us, h'.upq, h'.nq, h'.qs, h'.upa, h'.na, h'.as_, h'.row, h'.nd, hl.1.trans h'.ncash, ho.1, hl.2.trans h'.npos, ho.2, Nat.zero_le _, ?_⟩, ?_⟩
  · show 0 ≤ ((chainN s.head.toNat (bytesT t) : Nat) : Int) ∧ ((chainN s.head.toNat (bytesT t) : Nat) : Int) ≤ 18446744073709551615
    omega
  · show (s.trades ++ [t]).length ≤ M + 1
    have := h.nt
    simp; omega
theorem DOKt.fills {N : Nat} {who : Int} {o : Order} {n : Nat} : ∀ (fs : List FillR) {M : Nat} {s : FSt}, DOKt N M s.d → DOKt N (M + fs.length) (fs.foldl (fillD who o n) s).d
  | [], M, s, h => h
  | f :: fs, M, s, h => by
    rw [List.foldl_cons]
    have := DOKt.fills (who := who) (o := o) (n := n) fs (s := fillD who o n s f) (h.trade (tradeOf s.d o.side who f.mparty n f.price f.qty 0))
    rw [List.length_cons, show M + (fs.length + 1) = M + 1 + fs.length by omega]
    exact this
end Go.Proofs.YtakilgkpfjhfdaaGreat

namespace Go.Proofs.YtakilgkpfjhfdaaGreat
open Go Go.Sl
theorem putQ_up {q : Quote} {l : List Quote} (h : upQ l) : upQ (putQ q l) := by
  unfold putQ
  split
  · exact h
  · rename_i hb
    have hbad : badQ q l = false := by simpa using hb
    simp only [badQ, Bool.or_eq_false_iff] at hbad
    have hB := hbad.1.1.1.1.1
    have hne := bsB_false h hB
    have hup2 : upQ (l.map (offQ q)) := by
      unfold upQ; rw [List.pairwise_map]
      exact h.imp (fun {a b} hab => by rw [offQ_id, offQ_id]; exact hab)
    have hbs : bsN (cQ q.id) l = ((l.map (offQ q)).takeWhile fun x => decide (x.id < q.id)).length := by
      unfold bsN
      rw [List.takeWhile_map, List.length_map]
      congr 2
      funext x
      simp only [Function.comp, offQ_id]
      exact decide_eq_decide.2 cQ_neg
    refine ins_up (f := Quote.id) hup2 (fun x hx => ?_) hbs
    obtain ⟨y, hy, rfl⟩ := List.mem_map.1 hx
    rw [offQ_id]; exact hne y hy
theorem isR_parts {bs : List BondR} {ps : List PartyR} {look beat : Int} (h : isR bs ps look beat = true) : (1 ≤ bs.length ∧ bs.length ≤ 4) ∧ (1 ≤ ps.length ∧ ps.length ≤ 8) ∧ (1 ≤ look ∧ look ≤ 1000) ∧ (∀ b ∈ bs, isBond b = true) ∧ (∀ p ∈ ps, isParty p (maskTo ps ps.length) = true) := by
  unfold isR at h
  simp only [Bool.and_eq_true, List.all_eq_true] at h
  obtain ⟨⟨h1, h2⟩, ⟨⟨h3, h4⟩, h5⟩, h6⟩ := h
  have h1 := inB_t h1
  have h2 := inB_t h2
  have h5 := inB_t h5
  exact ⟨by omega, by omega, h5, h3, h4⟩
theorem bond_at {s : Dk} {n : Int} (hl : s.books.length = s.bonds.length) (h : isBondN s n = true) : (0 ≤ n ∧ n < s.books.length) ∧ s.bonds[n.toNat]? = some (bondOf s n) ∧ bondOf s n ∈ s.bonds := by
  unfold isBondN at h
  simp only [Bool.and_eq_true, decide_eq_true_eq] at h
  have hlt : n.toNat < s.bonds.length := by omega
  have e : s.bonds[n.toNat]? = some (bondOf s n) := by
    unfold bondOf at0
    rw [if_neg (by omega), List.getElem?_eq_getElem hlt]; rfl
  exact ⟨h, e, List.mem_of_getElem? e⟩
theorem qty_in {b : BondR} {q : Int} (hb : isBond b = true) (h : qtyE b q = 0) : 1 ≤ q ∧ q ≤ 1000000 := by
  have hp := isBond_pos hb
  have := hp.min
  have := hp.max
  unfold qtyE at h
  split at h
  · omega
  · rename_i h1
    have h2 := inB_t (show inB q b.min b.max = true by simpa using h1)
    omega
theorem price_in {b : BondR} {p : Int} (hb : isBond b = true) (h : priceE b p = 0) : 1 ≤ p ∧ p ≤ 1000000 := by
  have hp := isBond_pos hb
  have := hp.low
  have := hp.high
  unfold priceE at h
  split at h
  · omega
  · rename_i h1
    have h2 := inB_t (show inB p b.low b.high = true by simpa using h1)
    omega
theorem fold_order {who : Int} {o : Order} {n : Nat} (m : Int) : ∀ (fs : List FillR) (d : Dk) (outs : List OutR) (rest : Int), (fs.foldl (fillD who o n) ⟨{ d with order := m }, outs, rest⟩).d = { (fs.foldl (fillD who o n) ⟨d, outs, rest⟩).d with order := m }
  | [], d, outs, rest => rfl
  | f :: fs, d, outs, rest => by
    rw [List.foldl_cons, List.foldl_cons]
    exact fold_order m fs (tradeD d (tradeOf d o.side who f.mparty n f.price f.qty 0)) _ _
theorem DOK.meets {N : Nat} {s : Dk} (h : DOK N s) {who : Int} {n : Nat} {o : Order} {how m : Int} (hn : n < s.books.length) (ho : o.id ≤ m) (hm : s.order ≤ m ∧ m ≤ ((N + 1 : Nat) : Int)) : DOK (N + 1) { (meetsD s who n o how).d with order := m } := by
  have h' := h.up
  have ho0 := h.order
  have hs0 := h.seq
  have hbk : bookAt s n ∈ s.books := by
    unfold bookAt
    rw [List.getD_eq_getElem?_getD, List.getElem?_eq_getElem hn]
    exact List.getElem_mem hn
  have hB := h.bks _ hbk
  unfold meetsD
  dsimp only
  split
  · exact ⟨h'.rules, h'.nbk, h'.bks, fun l hl o ho => ⟨Int.le_trans (h'.bid l hl o ho).1 hm.1, (h'.bid l hl o ho).2⟩, ⟨by show 0 ≤ m; omega, hm.2⟩, h'.seq, h'.now, h'.quote, h'.ask, h'.nus, h'.us, h'.upq, h'.nq, h'.qs, h'.upa, h'.na, h'.as_, h'.row, h'.nd, h'.ncash, h'.cash, h'.npos, h'.pos, h'.nt, h'.head⟩
  · show DOK (N + 1) { (List.foldl _ _ _ : FSt).d with order := m }
    rw [← fold_order]
    have hlen := (doV_lens' (how := how) (o := { o with seq := s.seq + 1 }) hB).1
    have hin : ∀ l ∈ s.books.set n (doV how { o with seq := s.seq + 1 } (bookAt s n)).bk, BookB l ∧ ∀ x ∈ l, x.id ≤ m ∧ x.seq ≤ s.seq + 1 := by
      intro l hl
      rcases mem_set_or hl with rfl | hl
      · refine ⟨doV_B hB, fun x hx => ?_⟩
        rcases doV_mem hB hx with ⟨y, hy, e1, e2, _⟩ | ⟨e1, e2, _⟩
        · have := h.bid _ hbk y hy
          omega
        · have e1' : x.id = o.id := e1
          have e2' : x.seq = s.seq + 1 := e2
          omega
      · refine ⟨h.bks l hl, fun x hx => ?_⟩
        have := h.bid l hl x hx
        omega
    have hN : ((N + 1 : Nat) : Int) = (N : Int) + 1 := by omega
    refine (DOKt.fills _ (N := N + 1) (M := 64 * N) (s := ⟨{ s with seq := s.seq + 1, books := s.books.set n (doV how { o with seq := s.seq + 1 } (bookAt s n)).bk, order := m }, _, _⟩) ?_).all (by omega)
    exact ⟨⟨h'.rules, by show (s.books.set n _).length = _; rw [List.length_set]; exact h'.nbk, fun l hl => (hin l hl).1, fun l hl => (hin l hl).2, ⟨by show 0 ≤ m; omega, hm.2⟩, ⟨by show 0 ≤ s.seq + 1; omega, by show s.seq + 1 ≤ _; omega⟩, h'.now, h'.quote, h'.ask, h'.nus, h'.us, h'.upq, h'.nq, h'.qs, h'.upa, h'.na, h'.as_, h'.row, h'.nd, h'.ncash, h'.cash, h'.npos, h'.pos, Nat.zero_le _, h'.head⟩, h.nt⟩
theorem fills_order {who : Int} {o : Order} {n : Nat} : ∀ (fs : List FillR) (s : FSt), (fs.foldl (fillD who o n) s).d.order = s.d.order
  | [], s => rfl
  | f :: fs, s => by rw [List.foldl_cons, fills_order fs]; rfl
theorem meets_order {s : Dk} {who : Int} {n : Nat} {o : Order} {how : Int} : (meetsD s who n o how).d.order = s.order := by
  unfold meetsD
  dsimp only
  split
  · rfl
  · show (List.foldl _ _ _ : FSt).d.order = s.order
    rw [fills_order]
theorem DOK.meets0 {N : Nat} {s : Dk} (h : DOK N s) {who : Int} {n : Nat} {o : Order} {how : Int} (hn : n < s.books.length) (ho : o.id ≤ s.order) : DOK (N + 1) (meetsD s who n o how).d := by
  have h2 := h.order
  have h1 := h.meets (who := who) (how := how) hn ho ⟨Int.le_refl _, by omega⟩
  have e : (meetsD s who n o how).d.order = s.order := meets_order
  generalize (meetsD s who n o how).d = x at h1 e
  rw [← e] at h1
  exact h1
theorem DOK.halt {N : Nat} {s : Dk} (h : DOK N s) (n is : Int) : DOK N (haltD s n is).d := by
  unfold haltD
  split
  · exact h
  · split
    · exact h
    · rename_i h1 h2
      obtain ⟨_, _, hm⟩ := bond_at h.nbk (n := n) (by simpa using h1)
      have hr : isR (s.bonds.set n.toNat { bondOf s n with halted := is == 1 }) s.parties s.look s.beat = true := by
        have h0 := h.rules
        unfold isR at h0 ⊢
        simp only [Bool.and_eq_true, List.all_eq_true, List.length_set] at h0 ⊢
        refine ⟨h0.1, ⟨⟨fun b hb => ?_, h0.2.1.1.2⟩, h0.2.1.2⟩, h0.2.2⟩
        rcases mem_set_or hb with rfl | hb
        · have hq := h0.2.1.1.1 (bondOf s n) hm
          exact hq
        · exact h0.2.1.1.1 _ hb
      have hl : (s.bonds.set n.toNat { bondOf s n with halted := is == 1 }).length = s.bonds.length := by simp
      exact ⟨hr, h.nbk.trans hl.symm, h.bks, h.bid, h.order, h.seq, h.now, h.quote, h.ask, h.nus, h.us, h.upq, h.nq, h.qs, h.upa, h.na, fun a ha => (h.as_ a ha).mono (Int.le_refl _) hl rfl (Int.le_refl _), h.row, h.nd, h.ncash, h.cash, h.npos, fun r hr => ⟨(h.pos r hr).1.trans hl.symm, (h.pos r hr).2⟩, h.nt, h.head⟩
theorem findB_at {bs : List (List Order)} {id : Int} (h : ¬ findB bs id < 0) : ∃ (i : Nat) (l : List Order), findB bs id = i ∧ bs[i]? = some l ∧ (getO id l).isSome = true := by
  unfold findB at *
  rcases find_at (p := fun l => (getO id l).isSome) bs with ⟨hi, _⟩ | ⟨i, x, hi, hx, hp, _⟩
  · omega
  · exact ⟨i, x, hi, hx, hp⟩
theorem getO_in {id : Int} {l : List Order} {o : Order} (h : getO id l = some o) : o ∈ l ∧ o.id = id := by
  unfold getO at h
  have h1 := List.find?_some h
  exact ⟨List.mem_of_find?_eq_some h, by simpa [hasO] using h1⟩
theorem DOK.setBook {N : Nat} {s : Dk} (h : DOK N s) {n : Nat} {l m : List Order} (hl : s.books[n]? = some l) (hB : BookB m) (hm : ∀ y ∈ m, ∃ x ∈ l, y.id = x.id ∧ y.seq = x.seq) : DOK N { s with books := s.books.set n m } := by
  refine h.books (by simp) (fun k hk => ?_) (fun k hk o ho => ?_)
  · rcases mem_set_or hk with rfl | hk
    · exact hB
    · exact h.bks k hk
  · rcases mem_set_or hk with rfl | hk
    · obtain ⟨x, hx, e1, e2⟩ := hm o ho
      have := h.bid l (List.mem_of_getElem? hl) x hx
      omega
    · exact h.bid k hk o ho
theorem BookB.lessAll {l : List Order} (h : BookB l) (id left : Int) : BookB (lessO id left l) := by
  by_cases hE : lessE id left l = 0
  · exact h.less hE
  · rw [lessO_no hE]; exact h
theorem DOK.changes {N : Nat} {s : Dk} (h : DOK N s) (who kind id price qty : Int) : DOK (N + 1) (changesD s who kind id price qty).d := by
  unfold changesD
  dsimp only
  split
  · exact h.up
  · rename_i hn
    obtain ⟨n, l, e1, e2, e3⟩ := findB_at hn
    have hnl := (List.getElem?_eq_some_iff.1 e2).1
    have hat : bookAt s n = l := by unfold bookAt; rw [List.getD_eq_getElem?_getD, e2]; rfl
    rw [e1]
    simp only [Int.toNat_natCast, hat]
    have hB := h.bks l (List.mem_of_getElem? e2)
    have hdrop : ∀ k, DOK N { s with books := s.books.set n (dropO k l) } := fun k => h.setBook e2 (hB.drop _) (fun y hy => ⟨y, dropO_mem hy, rfl, rfl⟩)
    split
    · exact h.up
    · rename_i o ho
      have hoi := getO_in ho
      split
      · exact h.up
      · split
        · split
          · exact h.up
          · split
            · exact (h.setBook e2 (hB.lessAll _ _) (fun y hy => by
                obtain ⟨x, hx, a, b, _⟩ := lessO_mem hy
                exact ⟨x, hx, a, b⟩)).up
            · have hk := hdrop o.id
              have h1 := h.bid l (List.mem_of_getElem? e2) o hoi.1
              exact hk.meets0 (who := who) (n := n) (o := { o with price := price, left := qty }) (how := 0) (by show n < (s.books.set n _).length; rw [List.length_set]; exact hnl) h1.1
        · exact (hdrop id).up
theorem DOK.comes {N : Nat} {s : Dk} (h : DOK N s) (who : Int) (m : MsgR) : DOK (N + 1) (comesD s who m).d := by
  unfold comesD
  dsimp only
  split
  · exact h.up
  · rename_i h1
    obtain ⟨hn, _, _⟩ := bond_at h.nbk (n := m.f0) (by simpa using h1)
    split
    · exact h.up
    · split
      · exact h.up
      · have ho := h.order
        have hN : ((N + 1 : Nat) : Int) = (N : Int) + 1 := by omega
        split
        · have hm := h.meets (who := who) (n := m.f0.toNat) (o := ⟨s.order + 1, 0, who, m.f1, m.f2, m.f3⟩) (how := m.f4) (m := s.order + 1) (by omega) (Int.le_refl _) ⟨by omega, by omega⟩
          show DOK (N + 1) { (meetsD s who m.f0.toNat ⟨s.order + 1, 0, who, m.f1, m.f2, m.f3⟩ m.f4).d with order := (meetsD s who m.f0.toNat ⟨s.order + 1, 0, who, m.f1, m.f2, m.f3⟩ m.f4).d.order + 1 }
          rw [meets_order]
          exact hm
        · rename_i herr
          unfold meetsD at herr ⊢
          dsimp only at herr ⊢
          split
          · exact h.up
          · rename_i h0
            rw [if_neg h0] at herr
            exact absurd rfl herr
theorem addD_le {l : List Due} {d : Due} : (addD l d).length ≤ l.length + 1 := addD_len.1
theorem DOK.ask' {N : Nat} {s : Dk} (h : DOK N s) (who : Int) (m : MsgR) : DOK (N + 1) (askD s who m).d := by
  unfold askD
  dsimp only
  split
  · exact h.up
  · rename_i h1
    obtain ⟨hn, _, hbm⟩ := bond_at h.nbk (n := m.f0) (by simpa using h1)
    have hbd := (isR_parts h.rules).2.2.2.1 _ hbm
    split
    · exact h.up
    · rename_i h2
      split
      · exact h.up
      · split
        · exact h.up
        · rename_i h4
          have hq := qty_in hbd (Decidable.not_not.1 h4)
          split
          · exact h.up
          · rename_i h5
            split
            · exact h.up
            · rename_i h6
              split
              · exact h.up
              · have hr : roleV s.parties who ≠ 0 := by
                  intro e
                  apply h5
                  unfold reachE
                  rw [if_pos (by omega)]
                  decide
                obtain ⟨w1, w2, _⟩ := role_some hr
                have hw := inB_t (show inB m.f4 1 1000 = true by simpa [isWin] using h6)
                have h' := h.up
                have ha := h.ask
                have hnw := h.now
                have hN : ((N + 1 : Nat) : Int) = (N : Int) + 1 := by omega
                have hdl : 0 ≤ m.f3 % 18446744073709551616 ∧ m.f3 % 18446744073709551616 ≤ 18446744073709551615 := by omega
                have hs : isB m.f1 = true := by simpa using h2
                have hbl := h.nbk
                refine ⟨h'.rules, h'.nbk, h'.bks, h'.bid, h'.order, h'.seq, h'.now, h'.quote, ⟨by show 0 ≤ s.ask + 1; omega, by show s.ask + 1 ≤ _; omega⟩, h'.nus, h'.us, h'.upq, h'.nq, h'.qs, addA_up h.upa, Nat.le_trans addA_len (Nat.succ_le_succ h.na), fun a ha' => ?_, addD_row h.row, Nat.le_trans addD_le (Nat.succ_le_succ h.nd), h'.ncash, h'.cash, h'.npos, h'.pos, h'.nt, h'.head⟩
                rcases addA_from ha' with rfl | ha'
                · exact ⟨⟨by show 1 ≤ s.ask + 1; omega, by show s.ask + 1 ≤ s.ask + 1; omega⟩, ⟨hn.1, by show m.f0 < (s.bonds.length : Int); omega⟩, hs, hq, ⟨w1, w2⟩, hdl, ⟨by show 1 ≤ s.now + m.f4; omega, by show s.now + m.f4 ≤ s.now + 1000; omega⟩⟩
                · exact (h.as_ a ha').mono (by show s.ask ≤ s.ask + 1; omega) rfl rfl (Int.le_refl _)
theorem DOK.bondA {N : Nat} {s : Dk} (h : DOK N s) {a : AskR} (ha : a ∈ s.asks) : isBondN s a.bond = true ∧ isBond (bondOf s a.bond) = true := by
  obtain ⟨_, ⟨b1, b2⟩, _⟩ := h.as_ a ha
  have hl := h.nbk
  have hn : isBondN s a.bond = true := by
    unfold isBondN
    simp only [Bool.and_eq_true, decide_eq_true_eq]
    omega
  exact ⟨hn, (isR_parts h.rules).2.2.2.1 _ (bond_at h.nbk hn).2.2⟩
theorem DOK.quote' {N : Nat} {rf : Bool} {s : Dk} (h : DOK N s) {who : Int} (hw : 0 ≤ who ∧ who < s.parties.length) (m : MsgR) : DOK (N + 1) (quoteD rf s who m).d := by
  unfold quoteD
  split
  · exact h.up
  · rename_i a hg
    have hbd := (h.bondA (getA_mem hg).1).2
    split
    · exact h.up
    · split
      · exact h.up
      · split
        · exact h.up
        · split
          · exact h.up
          · rename_i h4
            have hp := price_in hbd (Decidable.not_not.1 h4)
            split
            · exact h.up
            · rename_i h5
              have hwn := inB_t (show inB m.f2 1 1000 = true by simpa [isWin] using h5)
              dsimp only
              split
              · exact h.up
              · have h' := h.up
                have hq := h.quote
                have hnw := h.now
                have hN : ((N + 1 : Nat) : Int) = (N : Int) + 1 := by omega
                have hrow : ∀ d, RowD (addD (if rf = true then dropD s.due 3 (oldQ ⟨s.quote + 1, a.id, who, m.f1, s.now + m.f2, true⟩ s.quotes) else s.due) d) := fun d => by
                  refine addD_row ?_
                  split
                  · exact dropD_row h.row
                  · exact h.row
                have hlen : ∀ d, (addD (if rf = true then dropD s.due 3 (oldQ ⟨s.quote + 1, a.id, who, m.f1, s.now + m.f2, true⟩ s.quotes) else s.due) d).length ≤ N + 1 := fun d => by
                  refine Nat.le_trans addD_le (Nat.succ_le_succ ?_)
                  split
                  · exact Nat.le_trans (dropD_le _ _ _) h.nd
                  · exact h.nd
                refine ⟨h'.rules, h'.nbk, h'.bks, h'.bid, h'.order, h'.seq, h'.now, ⟨by show 0 ≤ s.quote + 1; omega, by show s.quote + 1 ≤ _; omega⟩, h'.ask, h'.nus, h'.us, putQ_up h.upq, Nat.le_trans putQ_len (Nat.succ_le_succ h.nq), fun q hq' => ?_, h'.upa, h'.na, h'.as_, hrow _, hlen _, h'.ncash, h'.cash, h'.npos, h'.pos, h'.nt, h'.head⟩
                rcases putQ_from hq' with rfl | ⟨u, hu, hs⟩
                · exact ⟨⟨by show 1 ≤ s.quote + 1; omega, by show s.quote + 1 ≤ s.quote + 1; omega⟩, hw, hp, ⟨by show 1 ≤ s.now + m.f2; omega, by show s.now + m.f2 ≤ s.now + 1000; omega⟩⟩
                · exact QuoteOK.same (QuoteOK.mono (h.qs u hu) (by show s.quote ≤ s.quote + 1; omega) rfl (Int.le_refl _)) hs
theorem DOK.pull' {N : Nat} {rf : Bool} {s : Dk} (h : DOK N s) (who id : Int) : DOK N (pullD rf s who id).d := by
  unfold pullD
  split
  · exact h
  · split
    · exact h
    · split
      · exact h
      · split
        · exact h
        · refine h.turn _ s.asks _ (pullQ_up h.upq) (by rw [pullQ_len]; exact h.nq) (fun y hy => pullQ_from hy) h.upa h.na (fun y hy => self_from hy) ?_ ?_
          · split
            · exact dropD_row h.row
            · exact h.row
          · split
            · exact Nat.le_trans (dropD_le _ _ _) h.nd
            · exact h.nd
theorem DOK.hitq {N : Nat} {s : Dk} (h : DOK N s) (a : AskR) (q : Quote) : DOK (N + 1) (hitQ s a q).d := by
  unfold hitQ
  split
  · exact h.up
  · split
    · exact h.up
    · split
      · exact h.up
      · split
        · exact h.up
        · have hl := lookA_ok (id := a.id) (quote := q.id) (until_ := s.now + s.look) h.upa
          exact h.up.turn s.quotes _ _ h.upq h.up.nq (fun y hy => selfQ hy) hl.1 (by rw [hl.2]; exact h.up.na) (fun y hy => lookA_from hy) (addD_row h.row) (Nat.le_trans addD_le (Nat.succ_le_succ h.nd))
theorem DOK.hit' {N : Nat} {s : Dk} (h : DOK N s) (who id : Int) : DOK (N + 1) (hitD s who id).d := by
  unfold hitD
  split
  · exact h.up
  · split
    · exact h.up
    · split
      · exact h.up
      · exact h.hitq _ _
theorem DOK.best' {N : Nat} {s : Dk} (h : DOK N s) (who id : Int) : DOK (N + 1) (bestD s who id).d := by
  unfold bestD
  split
  · exact h.up
  · split
    · exact h.up
    · split
      · exact h.up
      · exact h.hitq _ _
theorem DOK.usedSet {N : Nat} {s : Dk} (h : DOK N s) {i : Nat} {n : Int} (hn : 0 ≤ n ∧ n ≤ 9223372036854775807) : DOK N { s with used := s.used.set i n } :=
  ⟨h.rules, h.nbk, h.bks, h.bid, h.order, h.seq, h.now, h.quote, h.ask, by show (s.used.set i n).length = _; rw [List.length_set]; exact h.nus, fun u hu => by
    rcases mem_set_or hu with rfl | hu
    · exact hn
    · exact h.us u hu, h.upq, h.nq, h.qs, h.upa, h.na, h.as_, h.row, h.nd, h.ncash, h.cash, h.npos, h.pos, h.nt, h.head⟩
theorem used_in {l : List Int} (h : ∀ u ∈ l, 0 ≤ u ∧ u ≤ 9223372036854775807) (who : Int) : 0 ≤ usedV l who ∧ usedV l who ≤ 9223372036854775807 := by
  unfold usedV
  rcases hx : at0 l who with _ | u
  · simp
  · exact h u (at0_mem hx)
theorem risk_ok {ps : List PartyR} {used : List Int} {who price qty : Int} (h : riskE ps used who price qty = 0) : roleV ps who = 2 ∧ 1 ≤ price ∧ 1 ≤ qty ∧ usedV used who + price * qty ≤ 9223372036854775807 := by
  unfold riskE at h
  split at h
  · omega
  · split at h
    · omega
    · split at h
      · omega
      · split at h
        · omega
        · omega
theorem DOK.looks' {N : Nat} {rf : Bool} {s : Dk} (h : DOK N s) (who kind id : Int) : DOK (N + 1) (looksD rf s who kind id).d := by
  unfold looksD
  split
  · exact h.up
  · rename_i a hg
    split
    · exact h.up
    · dsimp only
      split
      · exact h.up
      · split
        · refine (DOK.lookEnds ?_ a).up
          exact h.turn s.quotes s.asks _ h.upq h.nq (fun y hy => selfQ hy) h.upa h.na (fun y hy => self_from hy) (dropD_row h.row) (Nat.le_trans (dropD_le _ _ _) h.nd)
        · split
          · exact h.up
          · split
            · exact h.up
            · rename_i h5
              obtain ⟨r1, r2, r3, r4⟩ := risk_ok (Decidable.not_not.1 h5)
              have hu := used_in h.us (qOf s a.hit).dealer
              have hm : 0 ≤ (qOf s a.hit).price * a.qty := Int.mul_nonneg (by omega) (by omega)
              have h1 := h.usedSet (i := (qOf s a.hit).dealer.toNat) (n := usedV s.used (qOf s a.hit).dealer + (qOf s a.hit).price * a.qty) ⟨by omega, r4⟩
              have h2 := (h1.asks (endA_ok (id := a.id) (state := 3) h1.upa) (fun y hy => endA_from hy)).clear a.id
              have h3 := h2.up
              refine (DOKt.trade (N := N + 1) (M := 64 * N) ⟨h3.noT.ok, h2.nt⟩ _).all (by omega)
theorem DOK.dropA {N : Nat} {s : Dk} (h : DOK N s) (who id : Int) : DOK N (dropAskD s who id).d := by
  unfold dropAskD
  split
  · exact h
  · split
    · exact h
    · exact h.dies _
theorem may_quote {ps : List PartyR} {who : Int} (h : mayV ps who 10 = true) : 0 ≤ who ∧ who < ps.length := by
  have h2 : roleV ps who = 2 := by simpa [mayV] using h
  obtain ⟨a, b, _⟩ := role_some (ps := ps) (who := who) (by rw [h2]; decide)
  exact ⟨a, b⟩
theorem DOK.does {N : Nat} {rf : Bool} {s : Dk} (h : DOK N s) (who : Int) (m : MsgR) : DOK (N + 1) (doesD rf s who m).d := by
  unfold doesD
  split
  · exact h.up
  · rename_i hm
    split
    · exact h.comes who m
    · split
      · exact h.changes _ _ _ _ _
      · split
        · rename_i hk
          refine h.quote' (may_quote ?_) m
          rw [hk] at hm
          cases hv : mayV s.parties who 10
          · exact absurd (.inr (.inr hv)) hm
          · rfl
        · split
          · exact (h.pull' _ _).up
          · split
            · exact h.hit' _ _
            · split
              · exact h.best' _ _
              · split
                · exact h.looks' _ _ _
                · split
                  · exact (h.dropA _ _).up
                  · split
                    · exact h.ask' _ _
                    · exact (h.halt _ _).up
theorem DOK.do' {N : Nat} {rf : Bool} {s : Dk} (h : DOK N s) (who seq : Int) (m : MsgR) : DOK (N + 1) (doD rf s who seq m).1 := h.does who m
theorem DOK.new {bs : List BondR} {ps : List PartyR} {look beat : Int} (h : isR bs ps look beat = true) : DOK 0 (newDk bs ps look beat) := by
  refine ⟨h, by simp [newDk], fun l hl => ?_, fun l hl o ho => ?_, ⟨Int.le_refl _, Int.le_refl _⟩, ⟨Int.le_refl _, Int.le_refl _⟩, ⟨Int.le_refl _, Int.le_refl _⟩, ⟨Int.le_refl _, Int.le_refl _⟩, ⟨Int.le_refl _, Int.le_refl _⟩, by simp [newDk], fun u hu => ?_, List.Pairwise.nil, Nat.le_refl _, fun q hq => (by cases hq), List.Pairwise.nil, Nat.le_refl _, fun a ha => (by cases ha), RowD.nil, Nat.le_refl _, by simp [newDk], fun n hn => ?_, by simp [newDk], fun r hr => ?_, Nat.zero_le _, ⟨Int.le_refl _, by show (0 : Int) ≤ 18446744073709551615; omega⟩⟩
  · rw [(List.mem_replicate.1 hl).2]; exact BookB.nil
  · rw [(List.mem_replicate.1 hl).2] at ho; cases ho
  · rw [(List.mem_replicate.1 hu).2]; omega
  · rw [(List.mem_replicate.1 hn).2]; unfold inW; omega
  · rw [(List.mem_replicate.1 hr).2]
    refine ⟨by simp [newDk], fun n hn => ?_⟩
    rw [(List.mem_replicate.1 hn).2]; unfold inW; omega
end Go.Proofs.YtakilgkpfjhfdaaGreat

namespace Go.Proofs.YtakilgkpfjhfdaaGreat
open Go Go.Sl
attribute [local irreducible] AW ES EP Ld RetQ
set_option maxRecDepth 100000
theorem book_NewT (W : World) (h : List Chunk) : FSpec Tryz.prog W 38 [] h (fun v h' => ∃ p, v = .pointer (some ⟨p, 0, none⟩) ∧ h' = .blk p 106 [.slice none 0 0] :: .own none 0 0 52 6 [] :: h) := by
  refine FSpec.conv (book_NewN W h) ?_
  rintro v h' ⟨p, rfl, rfl⟩ w hw
  exact ⟨_, (hw.own_nil 52 6).perm sel1, p, rfl, rfl⟩
def newDkN (bs : List BondR) (ps : List PartyR) (look beat : Int) (k : Nat) : Dk := { newDk bs ps look beat with books := List.replicate k [] }
theorem isR_len {bs : List BondR} {ps : List PartyR} {look beat : Int} (h : isR bs ps look beat = true) : (1 ≤ bs.length ∧ bs.length ≤ 4) ∧ (1 ≤ ps.length ∧ ps.length ≤ 8) ∧ (1 ≤ look ∧ look ≤ 1000) := by
  unfold isR at h
  simp only [Bool.and_eq_true] at h
  have h1 := inB_t h.1.1
  have h2 := inB_t h.1.2
  have h3 := inB_t h.2.1.2
  omega
set_option maxHeartbeats 2000000 in
theorem desk_New (W : World) (h : List Chunk) (AB : Option Addr) (cB : Nat) (bs : List BondR) (AP : Option Addr) (cP : Nat) (ps : List PartyR) (look beat : Int) (hrB : Reads W h AB bs.length 7 (bs.flatMap BondR.enc)) (hrP : Reads W h AP ps.length 3 (ps.flatMap PartyR.enc)) (hb : bs.length ≤ 1000000) (hp : ps.length ≤ 1000000) :
    FSpec Tryz.prog W 13 [rulesV AB bs.length cB AP ps.length cP look beat] h
      (fun v h' => (isR bs ps look beat = false ∧ v = .pointer none ∧ h' = h) ∨ (isR bs ps look beat = true ∧ ∃ x bks rows, v = ptrV x.d ∧ h' = deskTab x (newDk bs ps look beat) bks rows h ∧ deskFits (newDk bs ps look beat) bks rows)) := by
  refine FSpec.dropTo ?_
  have hF := fun k (hk : ∀ c ∈ h, c ∈ k) => firm_New W k AB cB bs AP cP ps look beat (hrB.mono hk) (hrP.mono hk) hb hp
  have hcb := fun k (hk : ∀ c ∈ h, c ∈ k) => cloneBondR W k AB bs.length cB (bs.flatMap BondR.enc) (hrB.mono hk) (by omega)
  have hcl := fun k (hk : ∀ c ∈ h, c ∈ k) => clonePartyR W k AP ps.length cP (ps.flatMap PartyR.enc) (hrP.mono hk) (by omega)
  refine spec_body Tryz.func13 rfl rfl Tryz.results13 Tryz.ntmps13 rfl rfl ?_
  cases hR : isR bs ps look beat
  · have hF0 := fun k hk => (hF k hk).mono (R' := fun v h' => v = .pointer none ∧ h' = k) (fun v h' hh => by
      rcases hh with ⟨_, a, b⟩ | ⟨a, _⟩
      · exact ⟨a, b⟩
      · rw [hR] at a; cases a)
    repeat' (first | apply aw_seq | apply aw_region | apply aw_ret | apply es_nil | apply es_pure hT; iterate 4 exact rfl | (apply es_call (hs := (hF0 _ (by (intro c hc; (repeat (first | exact hc | apply mcm )))))); (iterate 7 exact rfl); rintro _ _ ⟨rfl, rfl⟩) | (apply es_load; (iterate 5 exact rfl); first | (apply ld_all hT; exact rfl; exact rfl; (repeat (first | exact mcs )); exact rfl)) | apply es_box; (iterate 5 exact rfl); intro _ | apply aw_condT; iterate 2 exact rfl)
    all_goals (apply ret1; exact rfl; exact ⟨h, by (repeat (first | exact dt_end | apply dt_skip)), .inl ⟨rfl, rfl, rfl⟩⟩)
  · obtain ⟨⟨b1, b2⟩, ⟨p1, p2⟩, _⟩ := isR_len hR
    have hF1 := fun k hk => (hF k hk).mono (R' := fun v h' => ∃ p A c U u, v = .pointer (some ⟨p, 0, none⟩) ∧ h' = firmTab p A c U u ps (List.replicate ps.length 0) k) (fun v h' hh => by
      rcases hh with ⟨a, _⟩ | ⟨_, a⟩
      · rw [hR] at a; cases a
      · exact a)
    have hps : isPosN ps.length bs.length = true := by unfold isPosN; simp; omega
    have hP1 := fun k => (pos_New W k ps.length bs.length).mono (R' := fun v h' => ∃ p AC cC AR cR rs, v = .pointer (some ⟨p, 0, none⟩) ∧ h' = posTab p AC cC AR cR (List.replicate ps.length 0) rs k ∧ rs.map PRow.l = List.replicate ps.length (List.replicate bs.length 0)) (fun v h' hh => by
      rcases hh with ⟨a, _⟩ | ⟨_, a⟩
      · rw [hps] at a; cases a
      · exact a)
    repeat' (first | apply aw_seq | apply aw_region | apply aw_skip | apply aw_block | apply es_nil | apply es_pure hT; iterate 4 exact rfl | (apply aw_treeD [] [33, 34, 35, 36, 37] (.step 0 <| .step 1 <| .step 5 <| .step 6 <| .step 7 <| .step 8 <| .step 9 <| .step 10 <| .step 2 <| .step 3 <| .step 4 <| .step 11 <| .step 12 <| .step 13 <| .step 14 <| .step 15 <| .nil) hmix; decide +kernel) | apply ep_nil | apply ep_alt | apply ep_step; exact rfl | (apply aw_treeD [] [] (.step 0 <| .step 1 <| .step 3 <| .alt (.step 2 <| .step 4 <| .step 6 <| .step 5 <| .step 7 <| .step 8 <| .step 9 <| .nil) ((.step 4 <| .step 2 <| .step 6 <| .step 5 <| .step 7 <| .step 8 <| .step 9 <| .nil))) hmix; decide +kernel) | (apply es_call (hs := (hF1 _ (by (intro c hc; (repeat (first | exact hc | apply mcm | apply mar)))))); (iterate 7 exact rfl); rintro _ _ ⟨pf, Af, cf, Uf, uf, rfl, rfl⟩) | (apply es_call (hs := (hcb _ (by (intro c hc; (repeat (first | exact hc | apply mcm | apply mar)))))); (iterate 7 exact rfl); rintro _ _ ⟨A1, c1, rfl, rfl⟩) | (apply es_call (hs := (hcl _ (by (intro c hc; (repeat (first | exact hc | apply mcm | apply mar)))))); (iterate 7 exact rfl); rintro _ _ ⟨A2, c2, rfl, rfl⟩) | apply es_callA (hs := (quote_NewN W _)); (iterate 7 exact rfl); (rintro _ _ ⟨pq, rfl, rfl⟩; refine ⟨[_], rfl, ?_⟩) | apply es_callA (hs := (ask_NewN W _)); (iterate 7 exact rfl); (rintro _ _ ⟨pa, rfl, rfl⟩; refine ⟨[_], rfl, ?_⟩) | apply es_callA (hs := (due_NewN W _)); (iterate 7 exact rfl); (rintro _ _ ⟨pu, rfl, rfl⟩; refine ⟨[_], rfl, ?_⟩) | apply es_callA (hs := (blot_NewN W _)); (iterate 7 exact rfl); (rintro _ _ ⟨pb, rfl, rfl⟩; refine ⟨[_], rfl, ?_⟩) | apply es_callA (hs := (hP1 _)); (iterate 7 exact rfl); (rintro _ _ ⟨pp, AC, cC, AR, cR, rows, rfl, rfl, hrows⟩; refine ⟨_ :: _ :: _ :: rows.map PRow.ck, rfl, ?_⟩) | (apply es_store hT; (iterate 6 exact rfl); (repeat (first | exact sel0 | apply selS )); (iterate 3 exact rfl); exact nle rfl) | apply es_buildS hT (cs := [.slice A1 bs.length c1, .slice A2 ps.length c2, .int .i64 look, .int .i64 beat, .int .i64 0, .slice none 0 0, ptrV pf, ptrV pq, ptrV pa, ptrV pu, ptrV pp, ptrV pb, .int .i64 0, .int .i64 0, .int .i64 0, .int .i64 0]); iterate 4 exact rfl | apply es_box; (iterate 5 exact rfl); intro gd | (apply es_load; (iterate 5 exact rfl); first | (apply ld_blk hT; exact rfl; exact rfl; (repeat (first | exact mcs | apply mcm | apply mar)); exact rfl; exact rfl) | (apply ld_all hT; exact rfl; exact rfl; (repeat (first | exact mcs )); exact rfl)) | apply aw_condF; iterate 2 exact rfl)
    all_goals try omega
    all_goals
      refine aw_conv (fun w hw => ⟨_, ((((hw.own_nil 48 1).own_nil 115 6).own_nil 68 10).own_nil 121 3).own_nil 103 8, ?_⟩)
      refine aw_loopD (α := Nat × Sp × List BAd) (E := fun x => [(4, ptrV gd), (34, .int .i64 bs.length), (35, .int .i64 x.1)])
        (H := fun x => deskTab ⟨gd, pf, pq, pa, pu, pp, pb, ⟨A1, c1⟩, ⟨A2, c2⟩, x.2.1, ⟨Af, cf⟩, ⟨Uf, uf⟩, ⟨none, 0⟩, ⟨none, 0⟩, ⟨none, 0⟩, ⟨AC, cC⟩, ⟨AR, cR⟩, ⟨none, 0⟩⟩ (newDkN bs ps look beat x.1) x.2.2 rows h) (μ := fun x => bs.length - x.1)
        (S := fun x => x.1 ≤ bs.length ∧ x.2.2.map BAd.l = List.replicate x.1 []) (0, ⟨none, 0⟩, []) ⟨Nat.zero_le _, rfl⟩ ⟨rfl, rfl, rfl, trivial⟩ ?_ ?_
      · simp only [deskTab, deskCs, newDkN, newDk, Sp.sl, Sp.own, firmTab, posTab, List.length_replicate, List.map_replicate, List.length_nil, List.flatMap_nil, List.map_nil, List.replicate_zero, List.nil_append]
        (repeat (first | exact dt_end | (apply dt_cons; · (repeat (first | exact sel0 | apply selS | apply selApp))) | apply dt_skip | apply dt_both))
      · rintro ⟨k, sp, bks⟩ ⟨hk, hbk⟩
        dsimp only at hk hbk ⊢
        have hlen : bks.length = k := by have := congrArg List.length hbk; simpa using this
        by_cases hlt : k < bs.length
        · have hd1 : decide ((k : Int) < (bs.length : Int)) = true := by simp; omega
          simp only [deskTab, deskCs, newDkN, newDk, Sp.sl, Sp.own, List.length_replicate, List.map_replicate, List.length_nil, List.flatMap_nil, List.map_nil]
          repeat' (first | apply aw_seq | apply aw_region | apply aw_skip | apply aw_block | apply es_nil | apply es_pure hT; iterate 4 exact rfl | (apply es_i64 hT; (iterate 4 exact rfl); (iterate 2 (first | omega ))) | (apply aw_treeD [] [] (.step 0 <| .step 1 <| .step 2 <| .step 3 <| .alt (.step 4 <| .step 5 <| .step 6 <| .step 7 <| .step 8 <| .step 9 <| .step 10 <| .nil) ((.step 5 <| .step 4 <| .step 6 <| .step 7 <| .step 8 <| .step 9 <| .step 10 <| .nil))) hmix; decide +kernel) | apply ep_nil | apply ep_alt | apply ep_step; exact rfl | apply es_call (hs := (book_NewT W _)); (iterate 7 exact rfl); rintro _ _ ⟨pk, rfl, rfl⟩ | apply es_buildSlice hT; (iterate 12 exact rfl); intro g43 | (apply es_append hT; (iterate 10 exact rfl); (repeat (first | exact sel0 | apply selS )); exact Reads.own mem0 rfl (List.all_eq_true.1 rfl); omega; (show (_ : Nat) * 8 ≤ _; omega); intro A' c') | (apply es_store hT; (iterate 6 exact rfl); (repeat (first | exact sel0 | apply selS )); (iterate 3 exact rfl); exact nle rfl) | (apply es_load; (iterate 5 exact rfl); first | (apply ld_blk hT; exact rfl; exact rfl; (repeat (first | exact mcs | apply mcm )); exact rfl; exact rfl) ) | (apply aw_cond; exact rfl; all_goals (intro hb; (try dsimp only at hb); (try simp only [hb]); (first | replace hb := odt hb | replace hb := odf hb ); (try omega))))
          all_goals try omega
          all_goals
            refine loopq_end (k + 1, ⟨A', c'⟩, bks ++ [⟨pk, ⟨none, 0⟩, []⟩]) (by dsimp only; omega) ⟨by dsimp only; omega, by dsimp only; rw [List.map_append, hbk, List.replicate_succ']; rfl⟩ ⟨rfl, rfl, rfl, trivial⟩ ?_
            dsimp only
            rw [List.map_append, List.flatMap_append, List.append_assoc]
            simp only [List.flatMap_cons, List.flatMap_nil, BAd.ck, Sp.sl, Sp.own, List.cons_append, List.nil_append, List.append_nil, List.length_nil]
            iterate 18 (apply dt_cons; · (repeat (first | exact sel0 | apply selS)))
            refine dt_mid ?_
            apply dt_cons; · (repeat (first | exact sel0 | apply selS))
            refine dt_mid ?_
            apply dt_cons; · (repeat (first | exact sel0 | apply selS))
            (repeat (first | exact dt_end | apply dt_skip))
        · obtain rfl : k = bs.length := by omega
          have hd1 : decide ((bs.length : Int) < (bs.length : Int)) = false := by simp
          repeat' (first | apply aw_seq | apply aw_region | apply aw_ret | apply aw_exit | apply es_nil | apply es_pure hT; iterate 4 exact rfl | (apply aw_cond; exact rfl; all_goals (intro hb; (try dsimp only at hb); (try simp only [hb]); (first | replace hb := odt hb | replace hb := odf hb ); (try omega))))
          all_goals first
            | (exfalso; omega)
            | (apply ret1; exact rfl; exact ⟨_, dt_end, .inr ⟨by trivial, ⟨gd, pf, pq, pa, pu, pp, pb, ⟨A1, c1⟩, ⟨A2, c2⟩, sp, ⟨Af, cf⟩, ⟨Uf, uf⟩, ⟨none, 0⟩, ⟨none, 0⟩, ⟨none, 0⟩, ⟨AC, cC⟩, ⟨AR, cR⟩, ⟨none, 0⟩⟩, bks, rows, rfl, rfl, hbk, hrows⟩⟩)
            | skip
end Go.Proofs.YtakilgkpfjhfdaaGreat

namespace Go.Proofs.YtakilgkpfjhfdaaGreat
open Go Go.Sl
attribute [local irreducible] AW ES Ld RetQ
set_option maxRecDepth 100000
theorem cloneTradeR (W : World) (h : List Chunk) (A : Option Addr) (n c : Nat) (cs : List Value) (hr : Reads W h A n 8 cs) (hb : n * 64 ≤ 140737488355328) :
    FSpec Tryz.prog W 84 [.slice A n c] h (fun v h' => ∃ A' c', v = .slice A' n c' ∧ h' = .own A' n c' 103 8 cs :: h) := by
  refine FSpec.drop ?_
  refine spec_body Tryz.func84 rfl rfl Tryz.results84 Tryz.ntmps84 rfl rfl ?_
  refine aw_reads hr rfl (fun hA => ?_)
  cases A with
  | none =>
    have hn : n = 0 := by
      rcases Nat.eq_zero_or_pos n with h | h
      · exact h
      · have := hA h; simp at this
    subst hn
    have hcs : cs = [] := List.eq_nil_of_length_eq_zero (by simpa using hr.len)
    subst hcs
    refine aw_conv (fun w hw => ⟨_, hw.own_nil 103 8, ?_⟩)
    repeat' (first | apply aw_seq | apply aw_region | apply aw_ret | apply es_nil | apply es_pure hT; iterate 4 exact rfl | apply aw_condT; iterate 2 exact rfl)
    apply ret1; exact rfl
    exact ⟨[], _, List.Perm.refl _, none, 0, rfl, rfl⟩
  | some ad =>
    repeat' (first | apply aw_seq | apply aw_region | apply aw_ret | apply aw_skip | apply es_nil | apply es_pure hT; iterate 4 exact rfl | apply es_buildSlice hT; (iterate 12 exact rfl); intro g1 | apply es_append hT; (iterate 10 exact rfl); exact sel0; exact hr.cons; omega; (show (0 + n) * 64 ≤ _; omega); intro A' c' | apply aw_condF; iterate 2 exact rfl)
    apply ret1; exact rfl
    refine ⟨[], _, List.Perm.refl _, A', c', by rw [Nat.zero_add], ?_⟩
    show Chunk.own A' (0 + n) c' 103 8 ([] ++ cs) :: h = _
    simp
end Go.Proofs.YtakilgkpfjhfdaaGreat

namespace Go.Proofs.YtakilgkpfjhfdaaGreat
open Go Go.Sl
attribute [local irreducible] AW ES EP Ld RetQ
set_option maxRecDepth 100000
theorem desk_isBond (W : World) (x : DAd) (s : Dk) (n : Int) : QSpec Tryz.prog W 41 [ptrV x.d, .int .i64 n] [.blk x.d 95 (deskCs x s)] (.bool (decide (n ≥ 0) && decide (n < s.books.length))) := by
  refine QSpec.ofD (fun h' hs => ?_)
  have m0 := hs _ mem0
  refine spec_body Tryz.func41 rfl rfl Tryz.results41 Tryz.ntmps41 rfl rfl ?_
  repeat' (first | apply aw_seq | apply aw_region | apply aw_ret | apply es_nil | apply es_pure hT; iterate 4 exact rfl | apply es_skip; iterate 3 exact rfl | (apply es_load; (iterate 5 exact rfl); first | (apply ld_blk hT; exact rfl; exact rfl; (repeat (first | exact m0 )); exact rfl; exact rfl) ) | (apply es_case; exact rfl; all_goals (intro hb; (fail_if_success (change true = true at hb)); (fail_if_success (change false = false at hb)); (try dsimp only at hb); (try simp only [hb]); (first | replace hb := odt hb | replace hb := odf hb ); (try omega))))
  all_goals first
    | (apply ret1; exact rfl; exact ⟨by (first | simp_all; done), by (repeat (first | exact dt_end))⟩)
    | skip
theorem blot_List (W : World) (h : List Chunk) (p : Nat) (A : Option Addr) (c : Nat) (l : List TradeR) (hv : Value) (m0 : Chunk.blk p 138 [.slice A l.length c, hv] ∈ h) (m1 : Chunk.own A l.length c 103 8 (l.flatMap TradeR.enc) ∈ h) (hb : l.length ≤ 1000000) :
    FSpec Tryz.prog W 54 [ptrV p] h (fun v h' => ∃ A' c', v = .slice A' l.length c' ∧ h' = .own A' l.length c' 103 8 (l.flatMap TradeR.enc) :: h) := by
  have hrd : Reads W h A l.length 8 (l.flatMap TradeR.enc) := Reads.own m1 (flat_len TradeR.enc_len _) (fun v hv => by
    obtain ⟨y, _, hy⟩ := List.mem_flatMap.1 hv
    exact TradeR.enc_one y v hy)
  refine FSpec.dropTo ?_
  refine spec_body Tryz.func54 rfl rfl Tryz.results54 Tryz.ntmps54 rfl rfl ?_
  repeat' (first | apply aw_seq | apply aw_region | apply aw_ret | apply aw_skip | apply es_nil | apply es_pure hT; iterate 4 exact rfl | (apply es_call (hs := (cloneTradeR W _ A l.length c (l.flatMap TradeR.enc) hrd (by omega))); (iterate 7 exact rfl); rintro _ _ ⟨A1, c1, rfl, rfl⟩) | (apply es_load; (iterate 5 exact rfl); first | (apply ld_blk hT; exact rfl; exact rfl; (repeat (first | exact m0 )); exact rfl; exact rfl) ) | apply aw_condF; iterate 2 exact rfl)
  all_goals first
    | (apply ret1; exact rfl; exact ⟨_, dt_end, A1, c1, rfl, rfl⟩)
    | skip
theorem desk_Trades (W : World) (h : List Chunk) (x : DAd) (s : Dk) (m0 : Chunk.blk x.d 95 (deskCs x s) ∈ h) (m1 : Chunk.blk x.b 138 [x.trades.sl s.trades.length, .int .u64 s.head] ∈ h) (m2 : x.trades.own s.trades.length 103 8 (s.trades.flatMap TradeR.enc) ∈ h) (hb : s.trades.length ≤ 1000000) :
    FSpec Tryz.prog W 24 [ptrV x.d] h (fun v h' => ∃ A' c', v = .slice A' s.trades.length c' ∧ h' = .own A' s.trades.length c' 103 8 (s.trades.flatMap TradeR.enc) :: h) := by
  refine FSpec.dropTo ?_
  have hL := blot_List W h x.b x.trades.A x.trades.c s.trades (.int .u64 s.head) m1 m2 hb
  refine spec_body Tryz.func24 rfl rfl Tryz.results24 Tryz.ntmps24 rfl rfl ?_
  repeat' (first | apply aw_seq | apply aw_region | apply aw_ret | apply aw_skip | apply es_nil | apply es_pure hT; iterate 4 exact rfl | apply es_call (hs := hL); (iterate 7 exact rfl); rintro _ _ ⟨A1, c1, rfl, rfl⟩ | (apply es_load; (iterate 5 exact rfl); first | (apply ld_blk hT; exact rfl; exact rfl; (repeat (first | exact m0 )); exact rfl; exact rfl) ) | apply aw_condF; iterate 2 exact rfl)
  all_goals first
    | (apply ret1; exact rfl; exact ⟨_, dt_end, A1, c1, rfl, rfl⟩)
    | skip
end Go.Proofs.YtakilgkpfjhfdaaGreat

namespace Go.Sl
open Go Go.RowKit
variable {P : Program} {W : World} {h h' F : List Chunk}
theorem Reads.enc {α : Type} {enc : α → List Value} {k : Nat} (hk : ∀ x, (enc x).length = k) (h1 : ∀ x, ∀ v ∈ enc x, v.oneCell' = true) {A : Option Addr} {n c : Nat} {t : TypeId} {l : List α} (hm : Chunk.own A n c t k (l.flatMap enc) ∈ h) (hn : l.length = n) : Reads W h A n k (l.flatMap enc) :=
  Reads.own hm (by rw [flat_len hk, hn]) (fun v hv => by
    obtain ⟨y, _, hy⟩ := List.mem_flatMap.1 hv
    exact h1 y v hy)
theorem Reads.ints {A : Option Addr} {n c : Nat} {t : TypeId} {kd : IntKind} {l : List Int} (hm : Chunk.own A n c t 1 (l.map (Value.int kd)) ∈ h) (hn : l.length = n) : Reads W h A n 1 (l.map (Value.int kd)) :=
  Reads.own hm (by simp [hn]) (fun v hv => by
    obtain ⟨y, _, rfl⟩ := List.mem_map.1 hv
    rfl)
theorem mem1P {x : Chunk} (hx : x ∈ h) : ∀ c ∈ [x], c ∈ h := fun c hc => by
  rw [List.mem_singleton.1 hc]; exact hx
theorem mem2P {x y : Chunk} (hx : x ∈ h) (hy : y ∈ h) : ∀ c ∈ [x, y], c ∈ h := fun c hc => by
  rcases List.mem_cons.1 hc with rfl | hc
  · exact hx
  · exact mem1P hy c hc
theorem mem3P {x y z : Chunk} (hx : x ∈ h) (hy : y ∈ h) (hz : z ∈ h) : ∀ c ∈ [x, y, z], c ∈ h := fun c hc => by
  rcases List.mem_cons.1 hc with rfl | hc
  · exact hx
  · exact mem2P hy hz c hc
theorem mem4P {x y z u : Chunk} (hx : x ∈ h) (hy : y ∈ h) (hz : z ∈ h) (hu : u ∈ h) : ∀ c ∈ [x, y, z, u], c ∈ h := fun c hc => by
  rcases List.mem_cons.1 hc with rfl | hc
  · exact hx
  · exact mem3P hy hz hu c hc
theorem intAt {kd : IntKind} {l : List Int} {i : Nat} {n : Int} (h : l[i]? = some n) : (l.map (Value.int kd))[i * 1]? = some (.int kd n) := by simp [h]
theorem lay_set1 {cs : List Value} {i : Nat} {v : Value} (h : i < cs.length) : lay cs (i * 1) [v] = cs.set i v := by
  rw [Nat.mul_one]; exact lay_one (by omega)
end Go.Sl

namespace Go.Sl
open Go Go.RowKit
variable {P : Program} {W : World} {T : Tab} {N : Nat} {env : Env} {h h' : List Chunk} {kf : KF} {ops : Array Oper} {K : Env → List Chunk → Prop} {o : Oper} {rest : List Oper}
theorem pullA0 {L R : List Chunk} : (L ++ R).Perm (L ++ R) := List.Perm.refl _
theorem pullAS {x : Chunk} {F L G : List Chunk} (hp : F.Perm (L ++ G)) : (x :: F).Perm (L ++ x :: G) := (hp.cons x).trans List.perm_middle.symm
theorem pullAA {X F L G : List Chunk} (hp : F.Perm (L ++ G)) : (X ++ F).Perm (L ++ (X ++ G)) := (hp.append_left X).trans (by
  rw [← List.append_assoc, ← List.append_assoc]
  exact (List.perm_append_comm).append_right G)
theorem permCA {h L G F : List Chunk} (h1 : h.Perm (L ++ G)) (h2 : G.Perm F) : h.Perm (L ++ F) := h1.trans (h2.append_left L)
theorem es_idxArr (hT : TabOK P T) {b : Bool} {d : Tmp} {ty pos af g} {t e : TypeId} {ti te : TI} {x ix : Operand} {ad : Addr} {gb off len : Nat} {i : Int} {k : IntKind} (hg : evalG ops env g = some b) (hb : b = true) (hd : Nat.blt d N = true)
    (ht : T.lookup t = some ti) (htd : ti.desc = .array len e) (hte : T.lookup e = some te) (hx : evalE env x = some (.pointer (some ad))) (hi : evalE env ix = some (.int k i)) (had : ad = ⟨gb, off, none⟩) (h0 : 0 ≤ i) (h1 : i < len)
    (hK : ES P W N kf ops rest ((d, .pointer (some ⟨gb, off + i.toNat * te.size, none⟩)) :: env) h K) : ES P W N kf ops (⟨some d, .indexAddr t x ix, ty, pos, af, g⟩ :: rest) env h K :=
  es_run hg hb hd (fun a ha w => by
    have g1 := hT _ _ ht
    have g2 := hT _ _ hte
    have hu := g1.1
    rw [htd] at hu
    subst had
    simp [execOp, ha.eval hx, ha.eval hi, Instr.indexAt, Instr.sureAddr, asIntOf, run_underlying hu, h0, h1, g2.sz, add_blk]) hK
theorem es_sliceArr (hT : TabOK P T) {b : Bool} {d : Tmp} {ty pos af g} {t e : TypeId} {ti te : TI} {x : Operand} {ad : Addr} {len : Nat} (hg : evalG ops env g = some b) (hb : b = true) (hd : Nat.blt d N = true)
    (ht : T.lookup t = some ti) (htd : ti.desc = .array len e) (hte : T.lookup e = some te) (hx : evalE env x = some (.pointer (some ad))) (h1 : 0 < len)
    (hK : ES P W N kf ops rest ((d, .slice (some (ad.add 0)) len len) :: env) h K) : ES P W N kf ops (⟨some d, .slice t x none none none, ty, pos, af, g⟩ :: rest) env h K :=
  es_run hg hb hd (fun a ha w => by
    have g1 := hT _ _ ht
    have g2 := hT _ _ hte
    have hu := g1.1
    rw [htd] at hu
    have hne : ¬ len = 0 := by omega
    simp [execOp, ha.eval hx, Instr.sliceAt, Instr.sliceBounds, Instr.sureAddr, run_underlying hu, g2.sz, hne]) hK
theorem es_sliceArrFrom (hT : TabOK P T) {b : Bool} {d : Tmp} {ty pos af g} {t e : TypeId} {ti te : TI} {x lo : Operand} {ad : Addr} {len : Nat} {k : IntKind} {i : Int} (hg : evalG ops env g = some b) (hb : b = true) (hd : Nat.blt d N = true)
    (ht : T.lookup t = some ti) (htd : ti.desc = .array len e) (hte : T.lookup e = some te) (hx : evalE env x = some (.pointer (some ad))) (hi : evalE env lo = some (.int k i)) (h0 : 0 ≤ i) (h1 : i ≤ len)
    (hK : ES P W N kf ops rest ((d, .slice (some (if len = i.toNat then ad else ad.add (i.toNat * te.size))) (len - i.toNat) (len - i.toNat)) :: env) h K) : ES P W N kf ops (⟨some d, .slice t x (some lo) none none, ty, pos, af, g⟩ :: rest) env h K :=
  es_run hg hb hd (fun a ha w => by
    have g1 := hT _ _ ht
    have g2 := hT _ _ hte
    have hu := g1.1
    rw [htd] at hu
    have h2 : ¬ i < 0 := by omega
    have h3 : ¬ (len : Int) < i := by omega
    simp [execOp, ha.eval hx, ha.eval hi, Instr.sliceAt, Instr.sliceBounds, Instr.sliceBound, Instr.sureAddr, asIntOf, run_underlying hu, g2.sz, h0, h1]) hK
end Go.Sl

namespace Go.Proofs.YtakilgkpfjhfdaaGreat
open Go Go.Sl
attribute [local irreducible] AW ES EP Ld RetQ
set_option maxRecDepth 100000
theorem msg_Asked (W : World) (k : Int) : QSpec Tryz.prog W 58 [.int .i64 k] [] (.bool (askedV k)) := by
  refine QSpec.ofD (fun h' hs => ?_)
  refine spec_body Tryz.func58 rfl rfl Tryz.results58 Tryz.ntmps58 rfl rfl ?_
  repeat' (first | apply aw_seq | apply aw_region | apply aw_ret | apply es_nil | apply es_pure hT; iterate 4 exact rfl | apply es_skip; iterate 3 exact rfl | (apply es_case; exact rfl; all_goals (intro hb; (fail_if_success (change true = true at hb)); (fail_if_success (change false = false at hb)); (try dsimp only at hb); (try simp only [hb]); (first | replace hb := odt hb | replace hb := odf hb ); (try omega))))
  all_goals first
    | (apply ret1; exact rfl; exact ⟨by (first | simp_all [askedV, inB]; done | simp [askedV, inB]; omega), by (repeat (first | exact dt_end))⟩)
    | skip
theorem manyV_out {k : Int} (h : ¬ (1 ≤ k ∧ k ≤ 28)) : manyV k = -1 := by
  unfold manyV
  split
  · rfl
  · have : k = 0 := by omega
    subst this; rfl
theorem msg_Many (W : World) (k : Int) : QSpec Tryz.prog W 94 [.int .i64 k] [] (.int .i64 (manyV k)) := by
  refine QSpec.ofD (fun h' hs => ?_)
  by_cases hk : 1 ≤ k ∧ k ≤ 28
  · obtain ⟨n, rfl⟩ := Int.eq_ofNat_of_zero_le (show 0 ≤ k by omega)
    have hn : n = 1 ∨ n = 2 ∨ n = 3 ∨ n = 4 ∨ n = 5 ∨ n = 6 ∨ n = 7 ∨ n = 8 ∨ n = 9 ∨ n = 10 ∨ n = 11 ∨ n = 12 ∨ n = 13 ∨ n = 14 ∨ n = 15 ∨ n = 16 ∨ n = 17 ∨ n = 18 ∨ n = 19 ∨ n = 20 ∨ n = 21 ∨ n = 22 ∨ n = 23 ∨ n = 24 ∨ n = 25 ∨ n = 26 ∨ n = 27 ∨ n = 28 := by omega
    refine spec_body Tryz.func94 rfl rfl Tryz.results94 Tryz.ntmps94 rfl rfl ?_
    rcases hn with rfl | rfl | rfl | rfl | rfl | rfl | rfl | rfl | rfl | rfl | rfl | rfl | rfl | rfl | rfl | rfl | rfl | rfl | rfl | rfl | rfl | rfl | rfl | rfl | rfl | rfl | rfl | rfl
    all_goals
      repeat' (first | apply aw_seq | apply aw_region | apply aw_ret | apply aw_skip | apply aw_block | apply es_nil | apply es_pure hT; iterate 4 exact rfl | apply aw_condT; iterate 2 exact rfl | apply aw_condF; iterate 2 exact rfl)
      all_goals first
        | (apply ret1; exact rfl; exact ⟨rfl, by (repeat (first | exact dt_end))⟩)
        | skip
  · rw [manyV_out hk]
    refine spec_body Tryz.func94 rfl rfl Tryz.results94 Tryz.ntmps94 rfl rfl ?_
    repeat' (first | apply aw_seq | apply aw_region | apply aw_ret | apply aw_skip | apply aw_block | apply es_nil | apply es_pure hT; iterate 4 exact rfl | (apply aw_cond; exact rfl; all_goals (intro hb; (try dsimp only at hb); (try simp only [hb]); (first | replace hb := odt hb | replace hb := odf hb ); (try omega))))
    all_goals first
      | (exfalso; omega)
      | (apply ret1; exact rfl; exact ⟨rfl, by (repeat (first | exact dt_end))⟩)
      | skip
theorem manyV_le (k : Int) : -1 ≤ manyV k ∧ manyV k ≤ 6 := by
  by_cases hk : 1 ≤ k ∧ k ≤ 28
  · obtain ⟨n, rfl⟩ := Int.eq_ofNat_of_zero_le (show 0 ≤ k by omega)
    have hn : n < 29 := by omega
    have key : ∀ n : Fin 29, -1 ≤ manyV ((n.val : Nat) : Int) ∧ manyV ((n.val : Nat) : Int) ≤ 6 := by decide
    exact key ⟨n, hn⟩
  · rw [manyV_out hk]; omega
set_option maxHeartbeats 2000000 in
theorem msg_Is (W : World) (m : MsgR) : QSpec Tryz.prog W 59 [.agg m.enc.toArray] [] (.bool (isMsg m)) := by
  refine QSpec.ofD (fun h' hs => ?_)
  have hM := msg_Many W m.kind
  have hle := manyV_le m.kind
  unfold isMsg
  generalize manyV m.kind = n at *
  refine spec_body Tryz.func59 rfl rfl Tryz.results59 Tryz.ntmps59 rfl rfl ?_
  by_cases h0 : n < 0
  · rw [decide_eq_false (show ¬ n ≥ 0 by omega)]
    repeat' (first | apply aw_seq | apply aw_region | apply aw_ret | apply es_nil | apply es_pure hT; iterate 4 exact rfl | apply es_box; (iterate 5 exact rfl); intro g1 | (apply es_callQ (hs := (hM.mono (by simp))); iterate 7 exact rfl) | (apply es_load; (iterate 5 exact rfl); first | (apply ld_blk hT; exact rfl; exact rfl; (repeat (first | exact mcs )); exact rfl; exact rfl) ) | (apply aw_cond; exact rfl; all_goals (intro hb; (try dsimp only at hb); (try simp only [hb]); (first | replace hb := odt hb | replace hb := odf hb ); (try omega))))
    all_goals first
      | (exfalso; omega)
      | (apply ret1; exact rfl; exact ⟨rfl, by (repeat (first | exact dt_end | apply dt_skip))⟩)
      | skip
  · rw [decide_eq_true (show n ≥ 0 by omega), Bool.true_and]
    obtain ⟨q, rfl⟩ := Int.eq_ofNat_of_zero_le (show 0 ≤ n by omega)
    have hq : q = 0 ∨ q = 1 ∨ q = 2 ∨ q = 3 ∨ q = 4 ∨ q = 5 ∨ q = 6 := by omega
    rcases hq with rfl | rfl | rfl | rfl | rfl | rfl | rfl
    · repeat' (first | apply aw_seq | apply aw_region | apply aw_skip | apply aw_block | apply es_nil | apply es_pure hT; iterate 4 exact rfl | apply es_box; (iterate 5 exact rfl); intro g1 | (apply es_callQ (hs := (hM.mono (by simp))); iterate 7 exact rfl) | apply es_sliceArrFrom hT; (iterate 8 exact rfl); (iterate 2 omega) | (apply es_load; (iterate 5 exact rfl); first | (apply ld_blk hT; exact rfl; exact rfl; (repeat (first | exact mcs )); exact rfl; exact rfl) ) | apply aw_condF; iterate 2 exact rfl)
      all_goals try omega
      have hrd : Reads W (.blk g1 25 m.enc :: h') (some ⟨g1, 1, none⟩) 6 1 (((MsgR.nums m).drop 0).map (Value.int .i64)) := Reads.blk mem0 rfl rfl (fun v hv => by
        obtain ⟨y, _, rfl⟩ := List.mem_map.1 hv
        rfl)
      have hll : ((MsgR.nums m).drop 0).length = 6 := rfl
      show AW _ _ _ _ _ _ _
      rw [show (Int.toNat ((0 : Nat) : Int)) = 0 from rfl]
      generalize (MsgR.nums m).drop 0 = l at *
      refine aw_loopD (α := Nat) (E := fun k => [(13, .slice (some ⟨g1, 1, none⟩) 6 6), (14, .int .i64 (6 : Nat)), (15, .int .i64 k)]) (H := fun _ => .blk g1 25 m.enc :: h') (μ := fun k => 6 - k)
        (S := fun k => k ≤ 6 ∧ ∀ (j : Nat) v, j < k → l[j]? = some v → (v == 0) = true) 0 ⟨Nat.zero_le _, fun j v hj => absurd hj (Nat.not_lt_zero _)⟩ ⟨rfl, rfl, rfl, trivial⟩ (by (repeat (first | exact dt_end))) ?_
      rintro k ⟨hk, hgd⟩
      by_cases hlt : k < 6
      · obtain ⟨v, hv⟩ : ∃ v, l[k]? = some v := ⟨l[k]'(by omega), List.getElem?_eq_getElem (by omega)⟩
        have hv2 : l[(k : Int).toNat]? = some v := by simpa using hv
        have hd1 : decide ((k : Int) < ((6 : Nat) : Int)) = true := by simp; omega
        have hix := intAt (kd := .i64) hv2
        by_cases hz : v = 0
        · repeat' (first | apply aw_seq | apply aw_region | apply aw_skip | apply aw_block | apply es_nil | apply es_pure hT; iterate 4 exact rfl | (apply es_i64 hT; (iterate 4 exact rfl); (iterate 2 (first | omega ))) | apply es_idx hT; (iterate 8 exact rfl); (iterate 2 omega); exact rfl | apply es_load; (iterate 5 exact rfl); exact ld_row hT rfl rfl hrd rfl hix | (apply aw_cond; exact rfl; all_goals (intro hb; (try dsimp only at hb); (try simp only [hb]); (first | replace hb := odt hb | replace hb := odf hb | replace hb := bne_t hb | replace hb := bne_f hb ); (try omega))))
          all_goals first
            | (exfalso; omega)
            | exact loopq_end (k + 1) (by (try dsimp only); omega) ⟨by (try dsimp only); omega, fun j w hj hw => by
                by_cases e : j = k
                · rw [e, hv] at hw; cases hw; rw [hz]; rfl
                · exact hgd j w (by (try dsimp only at hj); omega) hw⟩ ⟨rfl, rfl, rfl, trivial⟩ (by (repeat (first | exact dt_end)))
            | skip
        · have hno : l.all (fun v => v == 0) = false := by
            rw [List.all_eq_false]
            exact ⟨v, List.mem_of_getElem? hv, by simpa using hz⟩
          repeat' (first | apply aw_seq | apply aw_region | apply aw_ret | apply aw_skip | apply aw_block | apply es_nil | apply es_pure hT; iterate 4 exact rfl | apply es_idx hT; (iterate 8 exact rfl); (iterate 2 omega); exact rfl | apply es_load; (iterate 5 exact rfl); exact ld_row hT rfl rfl hrd rfl hix | (apply aw_cond; exact rfl; all_goals (intro hb; (try dsimp only at hb); (try simp only [hb]); (first | replace hb := odt hb | replace hb := odf hb | replace hb := bne_t hb | replace hb := bne_f hb ); (try omega))))
          all_goals first
            | (exfalso; omega)
            | (apply ret1; exact rfl; exact ⟨by rw [hno], by (repeat (first | exact dt_end | apply dt_skip))⟩)
            | skip
      · obtain rfl : k = 6 := by omega
        have hd1 : decide (((6 : Nat) : Int) < ((6 : Nat) : Int)) = false := by simp
        have hyes : l.all (fun v => v == 0) = true := by
          rw [List.all_eq_true]
          intro v hv
          obtain ⟨j, hj⟩ := List.getElem?_of_mem hv
          exact hgd j v (by have := (List.getElem?_eq_some_iff.1 hj).1; omega) hj
        repeat' (first | apply aw_seq | apply aw_region | apply aw_ret | apply aw_exit | apply es_nil | apply es_pure hT; iterate 4 exact rfl | apply aw_condF; iterate 2 exact rfl)
        all_goals first
          | (exfalso; omega)
          | (apply ret1; exact rfl; exact ⟨by rw [hyes], by (repeat (first | exact dt_end | apply dt_skip))⟩)
          | skip
    · repeat' (first | apply aw_seq | apply aw_region | apply aw_skip | apply aw_block | apply es_nil | apply es_pure hT; iterate 4 exact rfl | apply es_box; (iterate 5 exact rfl); intro g1 | (apply es_callQ (hs := (hM.mono (by simp))); iterate 7 exact rfl) | apply es_sliceArrFrom hT; (iterate 8 exact rfl); (iterate 2 omega) | (apply es_load; (iterate 5 exact rfl); first | (apply ld_blk hT; exact rfl; exact rfl; (repeat (first | exact mcs )); exact rfl; exact rfl) ) | apply aw_condF; iterate 2 exact rfl)
      all_goals try omega
      have hrd : Reads W (.blk g1 25 m.enc :: h') (some ⟨g1, 2, none⟩) 5 1 (((MsgR.nums m).drop 1).map (Value.int .i64)) := Reads.blk mem0 rfl rfl (fun v hv => by
        obtain ⟨y, _, rfl⟩ := List.mem_map.1 hv
        rfl)
      have hll : ((MsgR.nums m).drop 1).length = 5 := rfl
      show AW _ _ _ _ _ _ _
      rw [show (Int.toNat ((1 : Nat) : Int)) = 1 from rfl]
      generalize (MsgR.nums m).drop 1 = l at *
      refine aw_loopD (α := Nat) (E := fun k => [(13, .slice (some ⟨g1, 2, none⟩) 5 5), (14, .int .i64 (5 : Nat)), (15, .int .i64 k)]) (H := fun _ => .blk g1 25 m.enc :: h') (μ := fun k => 5 - k)
        (S := fun k => k ≤ 5 ∧ ∀ (j : Nat) v, j < k → l[j]? = some v → (v == 0) = true) 0 ⟨Nat.zero_le _, fun j v hj => absurd hj (Nat.not_lt_zero _)⟩ ⟨rfl, rfl, rfl, trivial⟩ (by (repeat (first | exact dt_end))) ?_
      rintro k ⟨hk, hgd⟩
      by_cases hlt : k < 5
      · obtain ⟨v, hv⟩ : ∃ v, l[k]? = some v := ⟨l[k]'(by omega), List.getElem?_eq_getElem (by omega)⟩
        have hv2 : l[(k : Int).toNat]? = some v := by simpa using hv
        have hd1 : decide ((k : Int) < ((5 : Nat) : Int)) = true := by simp; omega
        have hix := intAt (kd := .i64) hv2
        by_cases hz : v = 0
        · repeat' (first | apply aw_seq | apply aw_region | apply aw_skip | apply aw_block | apply es_nil | apply es_pure hT; iterate 4 exact rfl | (apply es_i64 hT; (iterate 4 exact rfl); (iterate 2 (first | omega ))) | apply es_idx hT; (iterate 8 exact rfl); (iterate 2 omega); exact rfl | apply es_load; (iterate 5 exact rfl); exact ld_row hT rfl rfl hrd rfl hix | (apply aw_cond; exact rfl; all_goals (intro hb; (try dsimp only at hb); (try simp only [hb]); (first | replace hb := odt hb | replace hb := odf hb | replace hb := bne_t hb | replace hb := bne_f hb ); (try omega))))
          all_goals first
            | (exfalso; omega)
            | exact loopq_end (k + 1) (by (try dsimp only); omega) ⟨by (try dsimp only); omega, fun j w hj hw => by
                by_cases e : j = k
                · rw [e, hv] at hw; cases hw; rw [hz]; rfl
                · exact hgd j w (by (try dsimp only at hj); omega) hw⟩ ⟨rfl, rfl, rfl, trivial⟩ (by (repeat (first | exact dt_end)))
            | skip
        · have hno : l.all (fun v => v == 0) = false := by
            rw [List.all_eq_false]
            exact ⟨v, List.mem_of_getElem? hv, by simpa using hz⟩
          repeat' (first | apply aw_seq | apply aw_region | apply aw_ret | apply aw_skip | apply aw_block | apply es_nil | apply es_pure hT; iterate 4 exact rfl | apply es_idx hT; (iterate 8 exact rfl); (iterate 2 omega); exact rfl | apply es_load; (iterate 5 exact rfl); exact ld_row hT rfl rfl hrd rfl hix | (apply aw_cond; exact rfl; all_goals (intro hb; (try dsimp only at hb); (try simp only [hb]); (first | replace hb := odt hb | replace hb := odf hb | replace hb := bne_t hb | replace hb := bne_f hb ); (try omega))))
          all_goals first
            | (exfalso; omega)
            | (apply ret1; exact rfl; exact ⟨by rw [hno], by (repeat (first | exact dt_end | apply dt_skip))⟩)
            | skip
      · obtain rfl : k = 5 := by omega
        have hd1 : decide (((5 : Nat) : Int) < ((5 : Nat) : Int)) = false := by simp
        have hyes : l.all (fun v => v == 0) = true := by
          rw [List.all_eq_true]
          intro v hv
          obtain ⟨j, hj⟩ := List.getElem?_of_mem hv
          exact hgd j v (by have := (List.getElem?_eq_some_iff.1 hj).1; omega) hj
        repeat' (first | apply aw_seq | apply aw_region | apply aw_ret | apply aw_exit | apply es_nil | apply es_pure hT; iterate 4 exact rfl | apply aw_condF; iterate 2 exact rfl)
        all_goals first
          | (exfalso; omega)
          | (apply ret1; exact rfl; exact ⟨by rw [hyes], by (repeat (first | exact dt_end | apply dt_skip))⟩)
          | skip
    · repeat' (first | apply aw_seq | apply aw_region | apply aw_skip | apply aw_block | apply es_nil | apply es_pure hT; iterate 4 exact rfl | apply es_box; (iterate 5 exact rfl); intro g1 | (apply es_callQ (hs := (hM.mono (by simp))); iterate 7 exact rfl) | apply es_sliceArrFrom hT; (iterate 8 exact rfl); (iterate 2 omega) | (apply es_load; (iterate 5 exact rfl); first | (apply ld_blk hT; exact rfl; exact rfl; (repeat (first | exact mcs )); exact rfl; exact rfl) ) | apply aw_condF; iterate 2 exact rfl)
      all_goals try omega
      have hrd : Reads W (.blk g1 25 m.enc :: h') (some ⟨g1, 3, none⟩) 4 1 (((MsgR.nums m).drop 2).map (Value.int .i64)) := Reads.blk mem0 rfl rfl (fun v hv => by
        obtain ⟨y, _, rfl⟩ := List.mem_map.1 hv
        rfl)
      have hll : ((MsgR.nums m).drop 2).length = 4 := rfl
      show AW _ _ _ _ _ _ _
      rw [show (Int.toNat ((2 : Nat) : Int)) = 2 from rfl]
      generalize (MsgR.nums m).drop 2 = l at *
      refine aw_loopD (α := Nat) (E := fun k => [(13, .slice (some ⟨g1, 3, none⟩) 4 4), (14, .int .i64 (4 : Nat)), (15, .int .i64 k)]) (H := fun _ => .blk g1 25 m.enc :: h') (μ := fun k => 4 - k)
        (S := fun k => k ≤ 4 ∧ ∀ (j : Nat) v, j < k → l[j]? = some v → (v == 0) = true) 0 ⟨Nat.zero_le _, fun j v hj => absurd hj (Nat.not_lt_zero _)⟩ ⟨rfl, rfl, rfl, trivial⟩ (by (repeat (first | exact dt_end))) ?_
      rintro k ⟨hk, hgd⟩
      by_cases hlt : k < 4
      · obtain ⟨v, hv⟩ : ∃ v, l[k]? = some v := ⟨l[k]'(by omega), List.getElem?_eq_getElem (by omega)⟩
        have hv2 : l[(k : Int).toNat]? = some v := by simpa using hv
        have hd1 : decide ((k : Int) < ((4 : Nat) : Int)) = true := by simp; omega
        have hix := intAt (kd := .i64) hv2
        by_cases hz : v = 0
        · repeat' (first | apply aw_seq | apply aw_region | apply aw_skip | apply aw_block | apply es_nil | apply es_pure hT; iterate 4 exact rfl | (apply es_i64 hT; (iterate 4 exact rfl); (iterate 2 (first | omega ))) | apply es_idx hT; (iterate 8 exact rfl); (iterate 2 omega); exact rfl | apply es_load; (iterate 5 exact rfl); exact ld_row hT rfl rfl hrd rfl hix | (apply aw_cond; exact rfl; all_goals (intro hb; (try dsimp only at hb); (try simp only [hb]); (first | replace hb := odt hb | replace hb := odf hb | replace hb := bne_t hb | replace hb := bne_f hb ); (try omega))))
          all_goals first
            | (exfalso; omega)
            | exact loopq_end (k + 1) (by (try dsimp only); omega) ⟨by (try dsimp only); omega, fun j w hj hw => by
                by_cases e : j = k
                · rw [e, hv] at hw; cases hw; rw [hz]; rfl
                · exact hgd j w (by (try dsimp only at hj); omega) hw⟩ ⟨rfl, rfl, rfl, trivial⟩ (by (repeat (first | exact dt_end)))
            | skip
        · have hno : l.all (fun v => v == 0) = false := by
            rw [List.all_eq_false]
            exact ⟨v, List.mem_of_getElem? hv, by simpa using hz⟩
          repeat' (first | apply aw_seq | apply aw_region | apply aw_ret | apply aw_skip | apply aw_block | apply es_nil | apply es_pure hT; iterate 4 exact rfl | apply es_idx hT; (iterate 8 exact rfl); (iterate 2 omega); exact rfl | apply es_load; (iterate 5 exact rfl); exact ld_row hT rfl rfl hrd rfl hix | (apply aw_cond; exact rfl; all_goals (intro hb; (try dsimp only at hb); (try simp only [hb]); (first | replace hb := odt hb | replace hb := odf hb | replace hb := bne_t hb | replace hb := bne_f hb ); (try omega))))
          all_goals first
            | (exfalso; omega)
            | (apply ret1; exact rfl; exact ⟨by rw [hno], by (repeat (first | exact dt_end | apply dt_skip))⟩)
            | skip
      · obtain rfl : k = 4 := by omega
        have hd1 : decide (((4 : Nat) : Int) < ((4 : Nat) : Int)) = false := by simp
        have hyes : l.all (fun v => v == 0) = true := by
          rw [List.all_eq_true]
          intro v hv
          obtain ⟨j, hj⟩ := List.getElem?_of_mem hv
          exact hgd j v (by have := (List.getElem?_eq_some_iff.1 hj).1; omega) hj
        repeat' (first | apply aw_seq | apply aw_region | apply aw_ret | apply aw_exit | apply es_nil | apply es_pure hT; iterate 4 exact rfl | apply aw_condF; iterate 2 exact rfl)
        all_goals first
          | (exfalso; omega)
          | (apply ret1; exact rfl; exact ⟨by rw [hyes], by (repeat (first | exact dt_end | apply dt_skip))⟩)
          | skip
    · repeat' (first | apply aw_seq | apply aw_region | apply aw_skip | apply aw_block | apply es_nil | apply es_pure hT; iterate 4 exact rfl | apply es_box; (iterate 5 exact rfl); intro g1 | (apply es_callQ (hs := (hM.mono (by simp))); iterate 7 exact rfl) | apply es_sliceArrFrom hT; (iterate 8 exact rfl); (iterate 2 omega) | (apply es_load; (iterate 5 exact rfl); first | (apply ld_blk hT; exact rfl; exact rfl; (repeat (first | exact mcs )); exact rfl; exact rfl) ) | apply aw_condF; iterate 2 exact rfl)
      all_goals try omega
      have hrd : Reads W (.blk g1 25 m.enc :: h') (some ⟨g1, 4, none⟩) 3 1 (((MsgR.nums m).drop 3).map (Value.int .i64)) := Reads.blk mem0 rfl rfl (fun v hv => by
        obtain ⟨y, _, rfl⟩ := List.mem_map.1 hv
        rfl)
      have hll : ((MsgR.nums m).drop 3).length = 3 := rfl
      show AW _ _ _ _ _ _ _
      rw [show (Int.toNat ((3 : Nat) : Int)) = 3 from rfl]
      generalize (MsgR.nums m).drop 3 = l at *
      refine aw_loopD (α := Nat) (E := fun k => [(13, .slice (some ⟨g1, 4, none⟩) 3 3), (14, .int .i64 (3 : Nat)), (15, .int .i64 k)]) (H := fun _ => .blk g1 25 m.enc :: h') (μ := fun k => 3 - k)
        (S := fun k => k ≤ 3 ∧ ∀ (j : Nat) v, j < k → l[j]? = some v → (v == 0) = true) 0 ⟨Nat.zero_le _, fun j v hj => absurd hj (Nat.not_lt_zero _)⟩ ⟨rfl, rfl, rfl, trivial⟩ (by (repeat (first | exact dt_end))) ?_
      rintro k ⟨hk, hgd⟩
      by_cases hlt : k < 3
      · obtain ⟨v, hv⟩ : ∃ v, l[k]? = some v := ⟨l[k]'(by omega), List.getElem?_eq_getElem (by omega)⟩
        have hv2 : l[(k : Int).toNat]? = some v := by simpa using hv
        have hd1 : decide ((k : Int) < ((3 : Nat) : Int)) = true := by simp; omega
        have hix := intAt (kd := .i64) hv2
        by_cases hz : v = 0
        · repeat' (first | apply aw_seq | apply aw_region | apply aw_skip | apply aw_block | apply es_nil | apply es_pure hT; iterate 4 exact rfl | (apply es_i64 hT; (iterate 4 exact rfl); (iterate 2 (first | omega ))) | apply es_idx hT; (iterate 8 exact rfl); (iterate 2 omega); exact rfl | apply es_load; (iterate 5 exact rfl); exact ld_row hT rfl rfl hrd rfl hix | (apply aw_cond; exact rfl; all_goals (intro hb; (try dsimp only at hb); (try simp only [hb]); (first | replace hb := odt hb | replace hb := odf hb | replace hb := bne_t hb | replace hb := bne_f hb ); (try omega))))
          all_goals first
            | (exfalso; omega)
            | exact loopq_end (k + 1) (by (try dsimp only); omega) ⟨by (try dsimp only); omega, fun j w hj hw => by
                by_cases e : j = k
                · rw [e, hv] at hw; cases hw; rw [hz]; rfl
                · exact hgd j w (by (try dsimp only at hj); omega) hw⟩ ⟨rfl, rfl, rfl, trivial⟩ (by (repeat (first | exact dt_end)))
            | skip
        · have hno : l.all (fun v => v == 0) = false := by
            rw [List.all_eq_false]
            exact ⟨v, List.mem_of_getElem? hv, by simpa using hz⟩
          repeat' (first | apply aw_seq | apply aw_region | apply aw_ret | apply aw_skip | apply aw_block | apply es_nil | apply es_pure hT; iterate 4 exact rfl | apply es_idx hT; (iterate 8 exact rfl); (iterate 2 omega); exact rfl | apply es_load; (iterate 5 exact rfl); exact ld_row hT rfl rfl hrd rfl hix | (apply aw_cond; exact rfl; all_goals (intro hb; (try dsimp only at hb); (try simp only [hb]); (first | replace hb := odt hb | replace hb := odf hb | replace hb := bne_t hb | replace hb := bne_f hb ); (try omega))))
          all_goals first
            | (exfalso; omega)
            | (apply ret1; exact rfl; exact ⟨by rw [hno], by (repeat (first | exact dt_end | apply dt_skip))⟩)
            | skip
      · obtain rfl : k = 3 := by omega
        have hd1 : decide (((3 : Nat) : Int) < ((3 : Nat) : Int)) = false := by simp
        have hyes : l.all (fun v => v == 0) = true := by
          rw [List.all_eq_true]
          intro v hv
          obtain ⟨j, hj⟩ := List.getElem?_of_mem hv
          exact hgd j v (by have := (List.getElem?_eq_some_iff.1 hj).1; omega) hj
        repeat' (first | apply aw_seq | apply aw_region | apply aw_ret | apply aw_exit | apply es_nil | apply es_pure hT; iterate 4 exact rfl | apply aw_condF; iterate 2 exact rfl)
        all_goals first
          | (exfalso; omega)
          | (apply ret1; exact rfl; exact ⟨by rw [hyes], by (repeat (first | exact dt_end | apply dt_skip))⟩)
          | skip
    · repeat' (first | apply aw_seq | apply aw_region | apply aw_skip | apply aw_block | apply es_nil | apply es_pure hT; iterate 4 exact rfl | apply es_box; (iterate 5 exact rfl); intro g1 | (apply es_callQ (hs := (hM.mono (by simp))); iterate 7 exact rfl) | apply es_sliceArrFrom hT; (iterate 8 exact rfl); (iterate 2 omega) | (apply es_load; (iterate 5 exact rfl); first | (apply ld_blk hT; exact rfl; exact rfl; (repeat (first | exact mcs )); exact rfl; exact rfl) ) | apply aw_condF; iterate 2 exact rfl)
      all_goals try omega
      have hrd : Reads W (.blk g1 25 m.enc :: h') (some ⟨g1, 5, none⟩) 2 1 (((MsgR.nums m).drop 4).map (Value.int .i64)) := Reads.blk mem0 rfl rfl (fun v hv => by
        obtain ⟨y, _, rfl⟩ := List.mem_map.1 hv
        rfl)
      have hll : ((MsgR.nums m).drop 4).length = 2 := rfl
      show AW _ _ _ _ _ _ _
      rw [show (Int.toNat ((4 : Nat) : Int)) = 4 from rfl]
      generalize (MsgR.nums m).drop 4 = l at *
      refine aw_loopD (α := Nat) (E := fun k => [(13, .slice (some ⟨g1, 5, none⟩) 2 2), (14, .int .i64 (2 : Nat)), (15, .int .i64 k)]) (H := fun _ => .blk g1 25 m.enc :: h') (μ := fun k => 2 - k)
        (S := fun k => k ≤ 2 ∧ ∀ (j : Nat) v, j < k → l[j]? = some v → (v == 0) = true) 0 ⟨Nat.zero_le _, fun j v hj => absurd hj (Nat.not_lt_zero _)⟩ ⟨rfl, rfl, rfl, trivial⟩ (by (repeat (first | exact dt_end))) ?_
      rintro k ⟨hk, hgd⟩
      by_cases hlt : k < 2
      · obtain ⟨v, hv⟩ : ∃ v, l[k]? = some v := ⟨l[k]'(by omega), List.getElem?_eq_getElem (by omega)⟩
        have hv2 : l[(k : Int).toNat]? = some v := by simpa using hv
        have hd1 : decide ((k : Int) < ((2 : Nat) : Int)) = true := by simp; omega
        have hix := intAt (kd := .i64) hv2
        by_cases hz : v = 0
        · repeat' (first | apply aw_seq | apply aw_region | apply aw_skip | apply aw_block | apply es_nil | apply es_pure hT; iterate 4 exact rfl | (apply es_i64 hT; (iterate 4 exact rfl); (iterate 2 (first | omega ))) | apply es_idx hT; (iterate 8 exact rfl); (iterate 2 omega); exact rfl | apply es_load; (iterate 5 exact rfl); exact ld_row hT rfl rfl hrd rfl hix | (apply aw_cond; exact rfl; all_goals (intro hb; (try dsimp only at hb); (try simp only [hb]); (first | replace hb := odt hb | replace hb := odf hb | replace hb := bne_t hb | replace hb := bne_f hb ); (try omega))))
          all_goals first
            | (exfalso; omega)
            | exact loopq_end (k + 1) (by (try dsimp only); omega) ⟨by (try dsimp only); omega, fun j w hj hw => by
                by_cases e : j = k
                · rw [e, hv] at hw; cases hw; rw [hz]; rfl
                · exact hgd j w (by (try dsimp only at hj); omega) hw⟩ ⟨rfl, rfl, rfl, trivial⟩ (by (repeat (first | exact dt_end)))
            | skip
        · have hno : l.all (fun v => v == 0) = false := by
            rw [List.all_eq_false]
            exact ⟨v, List.mem_of_getElem? hv, by simpa using hz⟩
          repeat' (first | apply aw_seq | apply aw_region | apply aw_ret | apply aw_skip | apply aw_block | apply es_nil | apply es_pure hT; iterate 4 exact rfl | apply es_idx hT; (iterate 8 exact rfl); (iterate 2 omega); exact rfl | apply es_load; (iterate 5 exact rfl); exact ld_row hT rfl rfl hrd rfl hix | (apply aw_cond; exact rfl; all_goals (intro hb; (try dsimp only at hb); (try simp only [hb]); (first | replace hb := odt hb | replace hb := odf hb | replace hb := bne_t hb | replace hb := bne_f hb ); (try omega))))
          all_goals first
            | (exfalso; omega)
            | (apply ret1; exact rfl; exact ⟨by rw [hno], by (repeat (first | exact dt_end | apply dt_skip))⟩)
            | skip
      · obtain rfl : k = 2 := by omega
        have hd1 : decide (((2 : Nat) : Int) < ((2 : Nat) : Int)) = false := by simp
        have hyes : l.all (fun v => v == 0) = true := by
          rw [List.all_eq_true]
          intro v hv
          obtain ⟨j, hj⟩ := List.getElem?_of_mem hv
          exact hgd j v (by have := (List.getElem?_eq_some_iff.1 hj).1; omega) hj
        repeat' (first | apply aw_seq | apply aw_region | apply aw_ret | apply aw_exit | apply es_nil | apply es_pure hT; iterate 4 exact rfl | apply aw_condF; iterate 2 exact rfl)
        all_goals first
          | (exfalso; omega)
          | (apply ret1; exact rfl; exact ⟨by rw [hyes], by (repeat (first | exact dt_end | apply dt_skip))⟩)
          | skip
    · repeat' (first | apply aw_seq | apply aw_region | apply aw_skip | apply aw_block | apply es_nil | apply es_pure hT; iterate 4 exact rfl | apply es_box; (iterate 5 exact rfl); intro g1 | (apply es_callQ (hs := (hM.mono (by simp))); iterate 7 exact rfl) | apply es_sliceArrFrom hT; (iterate 8 exact rfl); (iterate 2 omega) | (apply es_load; (iterate 5 exact rfl); first | (apply ld_blk hT; exact rfl; exact rfl; (repeat (first | exact mcs )); exact rfl; exact rfl) ) | apply aw_condF; iterate 2 exact rfl)
      all_goals try omega
      have hrd : Reads W (.blk g1 25 m.enc :: h') (some ⟨g1, 6, none⟩) 1 1 (((MsgR.nums m).drop 5).map (Value.int .i64)) := Reads.blk mem0 rfl rfl (fun v hv => by
        obtain ⟨y, _, rfl⟩ := List.mem_map.1 hv
        rfl)
      have hll : ((MsgR.nums m).drop 5).length = 1 := rfl
      show AW _ _ _ _ _ _ _
      rw [show (Int.toNat ((5 : Nat) : Int)) = 5 from rfl]
      generalize (MsgR.nums m).drop 5 = l at *
      refine aw_loopD (α := Nat) (E := fun k => [(13, .slice (some ⟨g1, 6, none⟩) 1 1), (14, .int .i64 (1 : Nat)), (15, .int .i64 k)]) (H := fun _ => .blk g1 25 m.enc :: h') (μ := fun k => 1 - k)
        (S := fun k => k ≤ 1 ∧ ∀ (j : Nat) v, j < k → l[j]? = some v → (v == 0) = true) 0 ⟨Nat.zero_le _, fun j v hj => absurd hj (Nat.not_lt_zero _)⟩ ⟨rfl, rfl, rfl, trivial⟩ (by (repeat (first | exact dt_end))) ?_
      rintro k ⟨hk, hgd⟩
      by_cases hlt : k < 1
      · obtain ⟨v, hv⟩ : ∃ v, l[k]? = some v := ⟨l[k]'(by omega), List.getElem?_eq_getElem (by omega)⟩
        have hv2 : l[(k : Int).toNat]? = some v := by simpa using hv
        have hd1 : decide ((k : Int) < ((1 : Nat) : Int)) = true := by simp; omega
        have hix := intAt (kd := .i64) hv2
        by_cases hz : v = 0
        · repeat' (first | apply aw_seq | apply aw_region | apply aw_skip | apply aw_block | apply es_nil | apply es_pure hT; iterate 4 exact rfl | (apply es_i64 hT; (iterate 4 exact rfl); (iterate 2 (first | omega ))) | apply es_idx hT; (iterate 8 exact rfl); (iterate 2 omega); exact rfl | apply es_load; (iterate 5 exact rfl); exact ld_row hT rfl rfl hrd rfl hix | (apply aw_cond; exact rfl; all_goals (intro hb; (try dsimp only at hb); (try simp only [hb]); (first | replace hb := odt hb | replace hb := odf hb | replace hb := bne_t hb | replace hb := bne_f hb ); (try omega))))
          all_goals first
            | (exfalso; omega)
            | exact loopq_end (k + 1) (by (try dsimp only); omega) ⟨by (try dsimp only); omega, fun j w hj hw => by
                by_cases e : j = k
                · rw [e, hv] at hw; cases hw; rw [hz]; rfl
                · exact hgd j w (by (try dsimp only at hj); omega) hw⟩ ⟨rfl, rfl, rfl, trivial⟩ (by (repeat (first | exact dt_end)))
            | skip
        · have hno : l.all (fun v => v == 0) = false := by
            rw [List.all_eq_false]
            exact ⟨v, List.mem_of_getElem? hv, by simpa using hz⟩
          repeat' (first | apply aw_seq | apply aw_region | apply aw_ret | apply aw_skip | apply aw_block | apply es_nil | apply es_pure hT; iterate 4 exact rfl | apply es_idx hT; (iterate 8 exact rfl); (iterate 2 omega); exact rfl | apply es_load; (iterate 5 exact rfl); exact ld_row hT rfl rfl hrd rfl hix | (apply aw_cond; exact rfl; all_goals (intro hb; (try dsimp only at hb); (try simp only [hb]); (first | replace hb := odt hb | replace hb := odf hb | replace hb := bne_t hb | replace hb := bne_f hb ); (try omega))))
          all_goals first
            | (exfalso; omega)
            | (apply ret1; exact rfl; exact ⟨by rw [hno], by (repeat (first | exact dt_end | apply dt_skip))⟩)
            | skip
      · obtain rfl : k = 1 := by omega
        have hd1 : decide (((1 : Nat) : Int) < ((1 : Nat) : Int)) = false := by simp
        have hyes : l.all (fun v => v == 0) = true := by
          rw [List.all_eq_true]
          intro v hv
          obtain ⟨j, hj⟩ := List.getElem?_of_mem hv
          exact hgd j v (by have := (List.getElem?_eq_some_iff.1 hj).1; omega) hj
        repeat' (first | apply aw_seq | apply aw_region | apply aw_ret | apply aw_exit | apply es_nil | apply es_pure hT; iterate 4 exact rfl | apply aw_condF; iterate 2 exact rfl)
        all_goals first
          | (exfalso; omega)
          | (apply ret1; exact rfl; exact ⟨by rw [hyes], by (repeat (first | exact dt_end | apply dt_skip))⟩)
          | skip
    · repeat' (first | apply aw_seq | apply aw_region | apply aw_skip | apply aw_block | apply es_nil | apply es_pure hT; iterate 4 exact rfl | apply es_box; (iterate 5 exact rfl); intro g1 | (apply es_callQ (hs := (hM.mono (by simp))); iterate 7 exact rfl) | apply es_sliceArrFrom hT; (iterate 8 exact rfl); (iterate 2 omega) | (apply es_load; (iterate 5 exact rfl); first | (apply ld_blk hT; exact rfl; exact rfl; (repeat (first | exact mcs )); exact rfl; exact rfl) ) | apply aw_condF; iterate 2 exact rfl)
      all_goals try omega
      have hrd : Reads W (.blk g1 25 m.enc :: h') (some ⟨g1, 1, none⟩) 0 1 (((MsgR.nums m).drop 6).map (Value.int .i64)) := Reads.blk mem0 rfl rfl (fun v hv => by
        obtain ⟨y, _, rfl⟩ := List.mem_map.1 hv
        rfl)
      have hll : ((MsgR.nums m).drop 6).length = 0 := rfl
      show AW _ _ _ _ _ _ _
      rw [show (Int.toNat ((6 : Nat) : Int)) = 6 from rfl]
      generalize (MsgR.nums m).drop 6 = l at *
      refine aw_loopD (α := Nat) (E := fun k => [(13, .slice (some ⟨g1, 1, none⟩) 0 0), (14, .int .i64 (0 : Nat)), (15, .int .i64 k)]) (H := fun _ => .blk g1 25 m.enc :: h') (μ := fun k => 0 - k)
        (S := fun k => k ≤ 0 ∧ ∀ (j : Nat) v, j < k → l[j]? = some v → (v == 0) = true) 0 ⟨Nat.zero_le _, fun j v hj => absurd hj (Nat.not_lt_zero _)⟩ ⟨rfl, rfl, rfl, trivial⟩ (by (repeat (first | exact dt_end))) ?_
      rintro k ⟨hk, hgd⟩
      by_cases hlt : k < 0
      · obtain ⟨v, hv⟩ : ∃ v, l[k]? = some v := ⟨l[k]'(by omega), List.getElem?_eq_getElem (by omega)⟩
        have hv2 : l[(k : Int).toNat]? = some v := by simpa using hv
        have hd1 : decide ((k : Int) < ((0 : Nat) : Int)) = true := by simp; omega
        have hix := intAt (kd := .i64) hv2
        by_cases hz : v = 0
        · repeat' (first | apply aw_seq | apply aw_region | apply aw_ret | apply aw_exit | apply es_nil | apply es_pure hT; iterate 4 exact rfl | apply aw_condF; iterate 2 exact rfl)
          all_goals first
            | (exfalso; omega)
            | exact loopq_end (k + 1) (by (try dsimp only); omega) ⟨by (try dsimp only); omega, fun j w hj hw => by
                by_cases e : j = k
                · rw [e, hv] at hw; cases hw; rw [hz]; rfl
                · exact hgd j w (by (try dsimp only at hj); omega) hw⟩ ⟨rfl, rfl, rfl, trivial⟩ (by (repeat (first | exact dt_end | (apply dt_cons; · (repeat (first | exact sel0 | apply selS | apply selApp))) | apply dt_skip | apply dt_both)))
            | skip
        · have hno : l.all (fun v => v == 0) = false := by
            rw [List.all_eq_false]
            exact ⟨v, List.mem_of_getElem? hv, by simpa using hz⟩
          repeat' (first | apply aw_seq | apply aw_region | apply aw_ret | apply aw_exit | apply es_nil | apply es_pure hT; iterate 4 exact rfl | apply aw_condF; iterate 2 exact rfl)
          all_goals first
            | (exfalso; omega)
            | (apply ret1; exact rfl; exact ⟨by rw [hno], by (repeat (first | exact dt_end | (apply dt_cons; · (repeat (first | exact sel0 | apply selS | apply selApp))) | apply dt_skip | apply dt_both))⟩)
            | skip
      · obtain rfl : k = 0 := by omega
        have hd1 : decide (((0 : Nat) : Int) < ((0 : Nat) : Int)) = false := by simp
        have hyes : l.all (fun v => v == 0) = true := by
          rw [List.all_eq_true]
          intro v hv
          obtain ⟨j, hj⟩ := List.getElem?_of_mem hv
          exact hgd j v (by have := (List.getElem?_eq_some_iff.1 hj).1; omega) hj
        repeat' (first | apply aw_seq | apply aw_region | apply aw_ret | apply aw_exit | apply es_nil | apply es_pure hT; iterate 4 exact rfl | apply aw_condF; iterate 2 exact rfl)
        all_goals first
          | (exfalso; omega)
          | (apply ret1; exact rfl; exact ⟨by rw [hyes], by (repeat (first | exact dt_end | apply dt_skip))⟩)
          | skip
end Go.Proofs.YtakilgkpfjhfdaaGreat

namespace Go.Proofs.YtakilgkpfjhfdaaGreat
open Go Go.Sl
attribute [local irreducible] AW ES EP Ld RetQ
set_option maxRecDepth 100000
theorem xor_nat {a b : Nat} (ha : a < 2 ^ 64) (hb : b < 2 ^ 64) : bitI .xor .u64 (a : Int) (b : Int) = ((a ^^^ b : Nat) : Int) := by
  show IntKind.u64.wrap ((BitVec.ofInt 64 (a : Int) ^^^ BitVec.ofInt 64 (b : Int)).toNat : Int) = _
  rw [BitVec.toNat_xor, BitVec.ofInt_natCast, BitVec.ofInt_natCast, BitVec.toNat_ofNat, BitVec.toNat_ofNat, Nat.mod_eq_of_lt ha, Nat.mod_eq_of_lt hb]
  have := Nat.xor_lt_two_pow ha hb
  exact IntWalk.u64_in _ ⟨by omega, by omega⟩
def byV (b : Nat) : Value := .int .u8 (b : Int)
theorem byV_at {l : List Nat} {i : Nat} {n : Nat} (h : l[i]? = some n) : (l.map byV)[i * 1]? = some (.int .u8 (n : Int)) := by simp [h]; rfl
theorem mixN_eq (x b : Nat) : mixN x b = (x ^^^ b) * 1099511628211 % 18446744073709551616 := rfl
theorem fold_step {α β : Type} {f : β → α → β} {l : List α} {k : Nat} {b : α} (h : l[k]? = some b) (x : β) : (l.take (k + 1)).foldl f x = f ((l.take k).foldl f x) b := by
  rw [List.take_add_one, h, List.foldl_append]; rfl
theorem mix_step {bs : List Nat} {k b : Nat} (h : bs[k]? = some b) (x : Nat) : (bs.take (k + 1)).foldl mixN x = mixN ((bs.take k).foldl mixN x) b := fold_step h x
set_option maxHeartbeats 1000000 in
theorem sum_Chain (W : World) (h : List Chunk) (A : Option Addr) (c : Nat) (last : Nat) (bs : List Nat) (hl : last < 2 ^ 64) (hbs : ∀ b ∈ bs, b < 256) (hr : Reads W h A bs.length 1 (bs.map byV)) (hb : bs.length ≤ 1000000) :
    QSpec Tryz.prog W 187 [.int .u64 last, .slice A bs.length c] h (.int .u64 (chainN last bs : Nat)) := by
  refine QSpec.ofD (fun h' hs => ?_)
  have hrd := hr.mono hs
  have hx0 := xor_nat hl (show 1469598103934665603 < 2 ^ 64 by decide)
  rw [show ((1469598103934665603 : Nat) : Int) = 1469598103934665603 from by simp] at hx0
  have hx0l : last ^^^ 1469598103934665603 < 2 ^ 64 := xor_lt64 hl (by decide)
  unfold chainN
  generalize last ^^^ 1469598103934665603 = x0 at *
  refine spec_body Tryz.func187 rfl rfl Tryz.results187 Tryz.ntmps187 rfl rfl ?_
  refine aw_reads hrd rfl (fun hA => ?_)
  repeat' (first | apply aw_seq | apply aw_region | apply aw_block | apply es_nil | apply es_pure hT; iterate 4 exact rfl | apply es_bitsV; (iterate 6 exact rfl); exact hx0)
  refine aw_loopD (α := Nat) (E := fun k => [(5, .int .u64 ((bs.take k).foldl mixN x0 : Nat)), (10, .slice A bs.length c), (11, .int .i64 bs.length), (12, .int .i64 k)]) (H := fun _ => h') (μ := fun k => bs.length - k)
    (S := fun k => k ≤ bs.length) 0 (Nat.zero_le _) ⟨rfl, rfl, rfl, rfl, trivial⟩ (by (repeat (first | exact dt_end))) ?_
  intro k hk
  have hxl : (bs.take k).foldl mixN x0 < 2 ^ 64 := mixs_lt _ hx0l
  by_cases hlt : k < bs.length
  · obtain ⟨b, hbk⟩ : ∃ b, bs[k]? = some b := ⟨bs[k]'(by omega), List.getElem?_eq_getElem (by omega)⟩
    have hbk2 : bs[(k : Int).toNat]? = some b := by simpa using hbk
    have hA' := hA (by omega)
    have hd1 : decide ((k : Int) < (bs.length : Int)) = true := by simp; omega
    have hb256 := hbs b (List.mem_of_getElem? hbk)
    have hst := mix_step hbk x0
    rw [mixN_eq] at hst
    generalize (bs.take k).foldl mixN x0 = x at *
    have hxb := xor_nat hxl (show b < 2 ^ 64 by omega)
    have hix := byV_at hbk2
    have hme : ((x ^^^ b : Nat) : Int) * 1099511628211 % 18446744073709551616 = (((x ^^^ b) * 1099511628211 % 18446744073709551616 : Nat) : Int) := by omega
    repeat' (first | apply aw_seq | apply aw_region | apply aw_skip | apply aw_block | apply es_nil | apply es_pure hT; iterate 4 exact rfl | (apply es_i64 hT; (iterate 4 exact rfl); (iterate 2 (first | omega ))) | apply es_idx hT; (iterate 8 exact rfl); (iterate 2 omega); exact hA' | apply es_load; (iterate 5 exact rfl); exact ld_row hT rfl rfl hrd rfl hix | apply es_u64 hT; (iterate 4 exact rfl); (iterate 2 omega) | apply es_bitsV; (iterate 6 exact rfl); exact hxb | apply es_u64r hT; iterate 4 exact rfl | (apply aw_cond; exact rfl; all_goals (intro hb; (try dsimp only at hb); (try simp only [hb]); (first | replace hb := odt hb | replace hb := odf hb ); (try omega))))
    all_goals first
      | (exfalso; omega)
      | exact loopq_end (k + 1) (by (try dsimp only); omega) (by (try dsimp only); omega) ⟨by rw [hst, ← hme]; rfl, rfl, rfl, rfl, trivial⟩ (by (repeat (first | exact dt_end)))
      | skip
  · obtain rfl : k = bs.length := by omega
    have hd1 : decide ((bs.length : Int) < (bs.length : Int)) = false := by simp
    rw [List.take_length] at *
    generalize bs.foldl mixN x0 = x at *
    have hdv : x / 536870912 < 2 ^ 64 := Nat.lt_of_le_of_lt (Nat.div_le_self _ _) hxl
    have hxd := xor_nat hxl hdv
    have hsh : ((x : Nat) : Int) / ((2 ^ 29 : Nat) : Int) = ((x / 536870912 : Nat) : Int) := by
      rw [show (2 ^ 29 : Nat) = 536870912 from rfl]; omega
    rw [← hsh] at hxd
    repeat' (first | apply aw_seq | apply aw_region | apply aw_ret | apply aw_exit | apply es_nil | apply es_pure hT; iterate 4 exact rfl | apply es_shr (n := 29); (iterate 6 exact rfl); exact nle rfl | apply es_bitsV; (iterate 6 exact rfl); exact hxd | (apply aw_cond; exact rfl; all_goals (intro hb; (try dsimp only at hb); (try simp only [hb]); (first | replace hb := odt hb | replace hb := odf hb ); (try omega))))
    all_goals first
      | (exfalso; omega)
      | (apply ret1; exact rfl; exact ⟨rfl, by (repeat (first | exact dt_end))⟩)
      | skip
end Go.Proofs.YtakilgkpfjhfdaaGreat

