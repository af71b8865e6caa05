/- The statements' walks, and what they stand on, joined into few texts: part 3. Conditions stand in each statement. -/
import Derived.Test.YtakilgkpfjhfdaaGreatBndF2
set_option linter.all false
namespace Go.Proofs.YtakilgkpfjhfdaaGreat
open Go Go.Sl
attribute [local irreducible] AW ES EP Ld RetQ
set_option maxRecDepth 100000
theorem zkS (W : World) (s a b : Int) : zaL Tryz.prog W 223 [.int .i64 s, .int .i64 a, .int .i64 b] [] (.bool (isB s && !zct s b a)) := by
 refine zaL.ofD (fun h' hs => ?_)
 have hI := zd7 W s
 have hB := zgj W s b a
 refine zan Tryz.func223 rfl rfl Tryz.results223 Tryz.ntmps223 rfl rfl ?_
 repeat' (first | apply zae | apply zaa | apply zaj | apply zad | apply zab hT; iterate 4 exact rfl | apply zaq; iterate 3 exact rfl | (apply zac (hs := (hI.mono (by simp))); iterate 7 exact rfl) | (apply zac (hs := (hB.mono (by simp))); iterate 7 exact rfl) | (apply zav; exact rfl; all_goals (intro hb; (fail_if_success (change true = true at hb)); (fail_if_success (change false = false at hb)); (try dsimp only at hb); (try simp only [hb]); (first | skip); (try omega))))
 all_goals
  apply ret1; exact rfl
  refine ⟨?_, by (repeat (first | exact zar))⟩
  simp [*]
theorem zjz (W : World) (o x : zaA) (how : Int) : zaL Tryz.prog W 212 [.agg o.enc.toArray, .agg x.enc.toArray, .int .i64 how] [] (.bool (zeD how o x)) := by
 refine zaL.ofD (fun h' hs => ?_)
 have hT' := zkS W o.side o.price x.price
 refine zan Tryz.func212 rfl rfl Tryz.results212 Tryz.ntmps212 rfl rfl ?_
 repeat' (first | apply zae | apply zaa | apply zaj | apply zad | apply zab hT; iterate 4 exact rfl | apply zaq; iterate 3 exact rfl | (apply zac (hs := (hT'.mono (by simp))); iterate 7 exact rfl) | (apply zal; (iterate 5 exact rfl); first | (apply zaC hT; exact rfl; exact rfl; (repeat (first | exact mcs | apply mcm)); exact rfl; exact rfl) ) | apply zaK; (iterate 5 exact rfl); intro _ | (apply zav; exact rfl; all_goals (intro hb; (fail_if_success (change true = true at hb)); (fail_if_success (change false = false at hb)); (try dsimp only at hb); (try simp only [hb]); (first | replace hb := odt hb | replace hb := odf hb ); (try omega))))
 all_goals
  apply ret1; exact rfl
  refine ⟨?_, by (repeat (first | exact zar | apply zat))⟩
  simp [zeD, *]
theorem ziK (W : World) (o x : zaA) (how : Int) (g1 g2 : Nat) : zaL Tryz.prog W 211 [.agg x.enc.toArray, .pointer (some ⟨g1, 0, none⟩), .pointer (some ⟨g2, 0, none⟩)] [.blk g1 52 o.enc, .blk g2 3 [.int .i64 how]] (.bool (!zeD how o x)) := by
 refine zaL.ofD (fun h' hs => ?_)
 have m1 := hs _ mem0
 have m2 := hs _ mem1
 have hT' := zjz W o x how
 refine zan Tryz.func211 rfl rfl Tryz.results211 Tryz.ntmps211 rfl rfl ?_
 repeat' (first | apply zae | apply zaa | apply zaj | apply zad | apply zab hT; iterate 4 exact rfl | (apply zac (hs := (hT'.mono (by simp))); iterate 7 exact rfl) | (apply zal; (iterate 5 exact rfl); first | (apply zaC hT; exact rfl; exact rfl; (repeat (first | exact m2 | apply mcm)); exact rfl; exact rfl) | (apply zaQ hT; exact rfl; exact rfl; (repeat (first | exact mcs | exact m1 | apply mcm)); exact rfl)) | apply zaK; (iterate 5 exact rfl); intro _)
 apply ret1; exact rfl
 exact ⟨rfl, by (repeat (first | exact zar | apply zat))⟩
set_option maxHeartbeats 1000000 in
theorem ziL (W : World) (h : List zax) (p : Nat) (A : Option Addr) (c : Nat) (l : List zaA) (o : zaA) (how : Int) (hB : zbh l) (m1 : zax.blk p 106 [.slice A l.length c] ∈ h) (m2 : zax.own A l.length c 52 6 (l.flatMap zaA.enc) ∈ h) :
 zaB Tryz.prog W 194 [.pointer (some ⟨p, 0, none⟩), .agg o.enc.toArray, .int .i64 how] h
  (fun v h' => ∃ A' c', v = .slice A' (zbF how o l).length c' ∧ h' = .own A' (zbf (zcG o.side) l).length c' 52 6 ((zbf (zcG o.side) l).flatMap zaA.enc) :: h) := by
 refine zaB.dropF ?_
 have hO := zfB W o.side
 have hS := fun h m1 m2 => zd8 W h p A c l (zcG o.side) m1 m2 hB.le hB.seq hB.side
 have hsl := zcU (zcG o.side) l
 have hbl := hB.len
 unfold zbF
 generalize zbf (zcG o.side) l = sl at hS hsl ⊢
 obtain ⟨hi1, hi2⟩ := zox (p := zeD how o) (l := sl)
 have hidx : ∀ h A2 c2 g1 g2, OwnF A2 sl.length c2 6 (sl.flatMap zaA.enc) → zax.own A2 sl.length c2 52 6 (sl.flatMap zaA.enc) ∈ h → zax.blk g1 52 o.enc ∈ h → zax.blk g2 3 [.int .i64 how] ∈ h → zaL Tryz.prog W 129 [.slice A2 sl.length c2, .func (.func 211) #[] #[.pointer (some ⟨g1, 0, none⟩), .pointer (some ⟨g2, 0, none⟩)]] h (.int .i64 (za4 (fun x => !zeD how o x) sl)) := fun h A2 c2 g1 g2 hf n1 n2 n3 =>
  zdk W h A2 _ c2 sl rfl (hf.reads n1) _ [_, _] (fun x => !zeD how o x) (fun x _ => (ziK W o x how g1 g2).mono (zbD n2 n3)) (by omega)
 refine zan Tryz.func194 rfl rfl Tryz.results194 Tryz.ntmps194 rfl rfl ?_
 rcases Int.lt_or_le (za4 (fun x => !zeD how o x) sl) 0 with hneg | hpos
 ·rw [hi1 hneg]
  generalize za4 (fun x => !zeD how o x) sl = ix at hneg hidx
  repeat' (first | apply zae | apply zaa | apply zaj | apply zad | apply zab hT; iterate 4 exact rfl | (apply zaK; (iterate 5 exact rfl); first | (fail_if_success (have q := g4)); intro g4 | intro g5) | (apply zac (hs := (hO.mono (by simp))); iterate 7 exact rfl) | (apply zaz (hs := (hS _ (.tail _ (.tail _ m1)) (.tail _ (.tail _ m2)))); (iterate 7 exact rfl); rintro _ _ ⟨AS, cS, rfl, rfl, hfS⟩) | (apply zac (hs := (hidx _ _ _ _ _ hfS (by (repeat (first | exact mcs ))) (by (repeat (first | exact mcs | apply mcm))) (by (repeat (first | exact mcs | apply mcm))))); iterate 7 exact rfl) | (apply zal; (iterate 5 exact rfl); first | (apply zaC hT; exact rfl; exact rfl; (repeat (first | exact mcs | apply mcm)); exact rfl; exact rfl) ) | (apply zam; exact rfl; all_goals (intro hb; (try dsimp only at hb); (try simp only [hb]); (first | replace hb := odt hb | replace hb := odf hb ); (try omega))))
  all_goals first
   | (exfalso; omega)
   | (apply ret1; exact rfl
      exact ⟨.own AS sl.length cS 52 6 (sl.flatMap zaA.enc) :: h, by (repeat (first | exact zar | (apply zay; · (repeat (first | exact sel0 ))) | apply zat)), fun w hw => ⟨AS, cS, rfl, rfl⟩⟩)
   | skip
 ·obtain ⟨i, hi⟩ := Int.eq_ofNat_of_zero_le hpos
  obtain ⟨e1, e2⟩ := hi2 i hi
  have hln : (sl.take i).length = i := by simp; omega
  rw [e1, hln]
  rw [hi] at hidx
  repeat' (first | apply zae | apply zaa | apply zaj | apply zah | apply zad | apply zab hT; iterate 4 exact rfl | (apply zaK; (iterate 5 exact rfl); first | (fail_if_success (have q := g4)); intro g4 | intro g5) | (apply zac (hs := (hO.mono (by simp))); iterate 7 exact rfl) | (apply zaz (hs := (hS _ (.tail _ (.tail _ m1)) (.tail _ (.tail _ m2)))); (iterate 7 exact rfl); rintro _ _ ⟨AS, cS, rfl, rfl, hfS⟩) | (apply zac (hs := (hidx _ _ _ _ _ hfS (by (repeat (first | exact mcs ))) (by (repeat (first | exact mcs | apply mcm))) (by (repeat (first | exact mcs | apply mcm))))); iterate 7 exact rfl) | (apply zbX hT; (iterate 8 exact rfl); omega; (have hnc := hfS.nc; omega)) | (apply zal; (iterate 5 exact rfl); first | (apply zaC hT; exact rfl; exact rfl; (repeat (first | exact mcs | apply mcm)); exact rfl; exact rfl) ) | (apply zag; iterate 2 exact rfl))
  all_goals first
   | (exfalso; omega)
   | (apply ret1; exact rfl
      exact ⟨.own AS sl.length cS 52 6 (sl.flatMap zaA.enc) :: h, by (repeat (first | exact zar | (apply zay; · (repeat (first | exact sel0 ))) | apply zat)), fun w hw => ⟨AS, cS, rfl, rfl⟩⟩)
   | skip
theorem zeO (W : World) (h : List zax) (p : Nat) (A : Option Addr) (c : Nat) (l : List zaA) (o : zaA) (how : Int) (hB : zbh l) (m1 : zax.blk p 106 [.slice A l.length c] ∈ h) (m2 : zax.own A l.length c 52 6 (l.flatMap zaA.enc) ∈ h) :
 zaB Tryz.prog W 194 [.pointer (some ⟨p, 0, none⟩), .agg o.enc.toArray, .int .i64 how] h
  (fun v h' => ∃ A' c', v = .slice A' (zbF how o l).length c' ∧ h' = .own A' (zbF how o l).length c' 52 6 ((zbF how o l).flatMap zaA.enc) :: h ∧ OwnF A' (zbF how o l).length c' 6 ((zbF how o l).flatMap zaA.enc)) := by
 refine (ziL W h p A c l o how hB m1 m2).conv ?_
 rintro v h' ⟨A', c', rfl, rfl⟩ w hw
 have hpre := List.takeWhile_prefix (zeD how o) (l := zbf (zcG o.side) l)
 have hle : (zbF how o l).length ≤ (zbf (zcG o.side) l).length := hpre.length_le
 have hw2 := zkR hw hle
 have e : (zbf (zcG o.side) l).take (zbF how o l).length = zbF how o l := (List.prefix_iff_eq_take.1 hpre).symm
 rw [zci zaA.enc_len, e] at hw2
 exact ⟨_, hw2, A', c', rfl, rfl, hw2.ownF mem0⟩
theorem zmg {p : zaA → Bool} {l : List zaA} {k : Nat} {x : zaA} (hx : l[k]? = some x) : sumL ((l.take (k + 1)).filter p) = sumL ((l.take k).filter p) + if p x then x.left else 0 := by
 rw [List.take_add_one, hx, List.filter_append, zgm]
 cases h : p x <;> simp [h, sumL]
theorem zo4 {p : zaA → Bool} {l : List zaA} (h : ∀ o ∈ l, 1 ≤ o.left ∧ o.left ≤ 1000000) (hl : l.length ≤ 64) (k : Nat) : 0 ≤ sumL ((l.take k).filter p) ∧ sumL ((l.take k).filter p) ≤ 64000000 := by
 have h1 := zoY (l := (l.take k).filter p) (fun o ho => h o (List.mem_of_mem_take (List.mem_filter.1 ho).1))
 have h2 := List.length_filter_le p (l.take k)
 have h3 : (l.take k).length ≤ 64 := by simp; omega
 omega
theorem zea {how : Int} {o : zaA} {l : List zaA} {x : zaA} (h : x ∈ zbF how o l) : x ∈ l ∧ x.side = zcG o.side := zc5 ((List.takeWhile_prefix _).subset h)
theorem zgu (how : Int) (o : zaA) (l : List zaA) : (zbF how o l).length ≤ l.length := Nat.le_trans (List.takeWhile_prefix _).length_le (zcU _ _)
set_option maxHeartbeats 1000000 in
theorem zjA (W : World) (p : Nat) (A : Option Addr) (c : Nat) (l : List zaA) (o : zaA) (how : Int) (hB : zbh l) :
 zaL Tryz.prog W 210 [.pointer (some ⟨p, 0, none⟩), .agg o.enc.toArray, .int .i64 how] (za9 p A c l []) (.int .i64 (zfP how o l)) := by
 refine zaL.ofD (fun h' hs => ?_)
 have m1 := hs _ mem0
 have m2 := hs _ mem1
 have hI := zd7 W o.side
 refine zan Tryz.func210 rfl rfl Tryz.results210 Tryz.ntmps210 rfl rfl ?_
 cases hb : isB o.side
 ·rw [hb] at hI
  repeat' (first | apply zae | apply zaa | apply zaj | apply zad | apply zab hT; iterate 4 exact rfl | (apply zac (hs := (hI.mono (by simp))); iterate 7 exact rfl) | (apply zal; (iterate 5 exact rfl); first | (apply zaC hT; exact rfl; exact rfl; (repeat (first | exact mcs )); exact rfl; exact rfl) ) | apply zaK; (iterate 5 exact rfl); intro _ | apply zak; iterate 2 exact rfl)
  apply ret1; exact rfl
  exact ⟨by simp [zfP, hb], by (repeat (first | exact zar | apply zat))⟩
 rw [hb] at hI
 have hv : zfP how o l = max (min (sumL (zcR o (zbF how o l))) o.left) 0 := by simp [zfP, hb]
 rw [hv]
 have hM := fun h m1 m2 => zeO W h p A c l o how hB m1 m2
 have hml := zgu how o l
 have hbl := hB.len
 have hlf : ∀ x ∈ zbF how o l, 1 ≤ x.left ∧ x.left ≤ 1000000 := fun x hx => hB.left x (zea hx).1
 generalize zbF how o l = ms at hM hml hlf ⊢
 unfold zcR
 repeat' (first | apply zae | apply zaa | apply zah | apply zaf | apply zad | apply zab hT; iterate 4 exact rfl | apply zaK; (iterate 5 exact rfl); intro g4 | (apply zac (hs := (hI.mono (by simp))); iterate 7 exact rfl) | apply zaz (hs := (hM _ (.tail _ m1) (.tail _ m2))); (iterate 7 exact rfl); rintro _ _ ⟨AM, cM, rfl, rfl, hfM⟩ | (apply zal; (iterate 5 exact rfl); first | (apply zaC hT; exact rfl; exact rfl; (repeat (first | exact mcs )); exact rfl; exact rfl) | (apply zaQ hT; exact rfl; exact rfl; (repeat (first | exact mcs )); exact rfl)) | apply zag; iterate 2 exact rfl)
 all_goals try omega
 refine zbj (α := Nat) (E := fun k => [(4, .pointer (some ⟨g4, 0, none⟩)), (7, .int .i64 (sumL ((ms.take k).filter fun x => !(x.owner == o.owner)))), (17, .slice AM ms.length cM), (18, .int .i64 ms.length), (19, .int .i64 k)])
  (H := fun k => .own AM ms.length cM 52 6 (ms.flatMap zaA.enc) :: .blk g4 52 o.enc :: h') (μ := fun k => ms.length - k)
  (S := fun k => k ≤ ms.length) 0 (Nat.zero_le _) ⟨rfl, rfl, rfl, rfl, rfl, trivial⟩ (by (repeat (first | exact zar))) ?_
 intro k hk
 have hbd := zo4 (p := fun x => !(x.owner == o.owner)) hlf (by omega) k
 by_cases hlt : k < ms.length
 ·obtain ⟨x, hx⟩ : ∃ x, ms[k]? = some x := ⟨ms[k]'(by omega), List.getElem?_eq_getElem (by omega)⟩
  have hx2 : ms[(k : Int).toNat]? = some x := by simpa using hx
  have hA := hfM.some_ (by omega)
  have hd1 : decide ((k : Int) < (ms.length : Int)) = true := by simp; omega
  have hst := zmg (p := fun x => !(x.owner == o.owner)) hx
  have hxl := hlf x (List.mem_of_getElem? hx)
  generalize sumL ((ms.take k).filter fun x => !(x.owner == o.owner)) = m at hbd hst ⊢
  by_cases how1 : x.owner = o.owner
  ·rw [if_neg (by simp [how1]), Int.add_zero] at hst
   repeat' (first | apply zae | apply zaa | apply zah | apply zaf | apply zad | apply zab hT; iterate 4 exact rfl | (apply zaN hT; (iterate 4 exact rfl); (iterate 2 (first | omega ))) | apply zaS hT; (iterate 8 exact rfl); (iterate 2 omega); exact hA | apply zal; (iterate 5 exact rfl); exact zaY hT rfl rfl (hfM.reads mem0) zaA.enc_len rfl hx2 rfl | (apply zaI hT; (iterate 5 exact rfl); first | (fail_if_success (have q := g9)); intro g9) | (apply zaF hT; (iterate 6 exact rfl); (repeat (first | exact sel0 )); (iterate 3 exact rfl); exact nle rfl) | (apply zal; (iterate 5 exact rfl); first | (apply zaC hT; exact rfl; exact rfl; (repeat (first | exact mcs | apply mcm)); exact rfl; exact rfl) ) | (apply zam; exact rfl; all_goals (intro hb; (try dsimp only at hb); (try simp only [hb]); (first | replace hb := odt hb | replace hb := odf hb | replace hb := zaD hb | replace hb := zaE hb ); (try omega))))
   all_goals first
    | (exfalso; omega)
    | exact zaR (k + 1) (by (try dsimp only); omega) (by (try dsimp only); omega) ⟨rfl, by (try dsimp only); rw [hst]; rfl, rfl, rfl, rfl, trivial⟩ (zat zar)
    | (apply zdh; exact zaR (k + 1) (by (try dsimp only); omega) (by (try dsimp only); omega) ⟨rfl, by (try dsimp only); rw [hst]; rfl, rfl, rfl, rfl, trivial⟩ (zat zar))
    | skip
  ·rw [if_pos (by simp [how1])] at hst
   repeat' (first | apply zae | apply zaa | apply zah | apply zaf | apply zad | apply zab hT; iterate 4 exact rfl | (apply zaN hT; (iterate 4 exact rfl); (iterate 2 (first | omega ))) | apply zaS hT; (iterate 8 exact rfl); (iterate 2 omega); exact hA | apply zal; (iterate 5 exact rfl); exact zaY hT rfl rfl (hfM.reads mem0) zaA.enc_len rfl hx2 rfl | (apply zaI hT; (iterate 5 exact rfl); first | (fail_if_success (have q := g9)); intro g9) | (apply zaF hT; (iterate 6 exact rfl); (repeat (first | exact sel0 )); (iterate 3 exact rfl); exact nle rfl) | (apply zal; (iterate 5 exact rfl); first | (apply zaC hT; exact rfl; exact rfl; (repeat (first | exact mcs | apply mcm)); exact rfl; exact rfl) ) | (apply zam; exact rfl; all_goals (intro hb; (try dsimp only at hb); (try simp only [hb]); (first | replace hb := odt hb | replace hb := odf hb | replace hb := zaD hb | replace hb := zaE hb ); (try omega))))
   all_goals first
    | (exfalso; omega)
    | exact zaR (k + 1) (by (try dsimp only); omega) (by (try dsimp only); omega) ⟨rfl, by (try dsimp only); rw [hst]; rfl, rfl, rfl, rfl, trivial⟩ (zat zar)
    | (apply zdh; exact zaR (k + 1) (by (try dsimp only); omega) (by (try dsimp only); omega) ⟨rfl, by (try dsimp only); rw [hst]; rfl, rfl, rfl, rfl, trivial⟩ (zat zar))
    | skip
 ·obtain rfl : k = ms.length := by omega
  have hd1 : decide ((ms.length : Int) < (ms.length : Int)) = false := by simp
  rw [List.take_length]
  repeat' (first | apply zae | apply zaa | apply zaj | apply zas | apply zad | apply zab hT; iterate 4 exact rfl | apply zjZ; iterate 5 exact rfl | apply zpt; iterate 5 exact rfl | (apply zal; (iterate 5 exact rfl); first | (apply zaC hT; exact rfl; exact rfl; (repeat (first | exact mcs | apply mcm)); exact rfl; exact rfl) ) | (apply zam; exact rfl; all_goals (intro hb; (try dsimp only at hb); (try simp only [hb]); (first | replace hb := odt hb | replace hb := odf hb ); (try omega))))
  all_goals first
   | (exfalso; omega)
   | (apply ret1; exact rfl; exact ⟨rfl, by (repeat (first | exact zar | apply zat))⟩)
   | skip
theorem ziM (W : World) (o x : zaA) (g1 : Nat) : zaL Tryz.prog W 222 [.agg x.enc.toArray, .pointer (some ⟨g1, 0, none⟩)] [.blk g1 52 o.enc] (.bool (zbt o x)) := by
 refine zaL.ofD (fun h' hs => ?_)
 have m1 := hs _ mem0
 refine zan Tryz.func222 rfl rfl Tryz.results222 Tryz.ntmps222 rfl rfl ?_
 repeat' (first | apply zae | apply zaa | apply zaj | apply zad | apply zab hT; iterate 4 exact rfl | apply zaq; iterate 3 exact rfl | (apply zal; (iterate 5 exact rfl); first | (apply zaC hT; exact rfl; exact rfl; (repeat (first | exact mcs | exact m1 | apply mcm)); exact rfl; exact rfl) ) | apply zaK; (iterate 5 exact rfl); intro _ | (apply zav; exact rfl; all_goals (intro hb; (fail_if_success (change true = true at hb)); (fail_if_success (change false = false at hb)); (try dsimp only at hb); (try simp only [hb]); (first | replace hb := odt hb | replace hb := odf hb ); (try omega))))
 all_goals
  apply ret1; exact rfl
  refine ⟨?_, by (repeat (first | exact zar | apply zat))⟩
  simp [zbt, *]
theorem zgv (W : World) (how : Int) : zaL Tryz.prog W 196 [.int .i64 how] [] (.bool (zcg how)) := by
 refine zaL.ofD (fun h' hs => ?_)
 refine zan Tryz.func196 rfl rfl Tryz.results196 Tryz.ntmps196 rfl rfl ?_
 repeat' (first | apply zae | apply zaa | apply zaj | apply zad | apply zab hT; iterate 4 exact rfl | apply zaq; iterate 3 exact rfl | (apply zav; exact rfl; all_goals (intro hb; (fail_if_success (change true = true at hb)); (fail_if_success (change false = false at hb)); (try dsimp only at hb); (try simp only [hb]); (first | replace hb := odt hb | replace hb := odf hb ); (try omega))))
 all_goals
  apply ret1; exact rfl
  refine ⟨?_, by (repeat (first | exact zar))⟩
  simp [zcg, *]
theorem zkT {o : zaA} {l : List zaA} (hB : zbh l) : za4 (zbt o) l < 0 ↔ za4 (zbt o) (zbf 1 l) < 0 ∧ za4 (zbt o) (zbf 2 l) < 0 := by
 rw [zcu, zcu, zcu]
 refine ⟨fun h => ⟨fun x hx => h x (zc5 hx).1, fun x hx => h x (zc5 hx).1⟩, fun ⟨h1, h2⟩ x hx => ?_⟩
 have hm : ∀ s, x.side = s → x ∈ zbf s l := fun s e => (zc4 s l).mem_iff.2 (List.mem_filter.2 ⟨hx, by simp [zb4, e]⟩)
 rcases zjt (hB.side x hx) with e | e
 ·exact h1 x (hm 1 e)
 ·exact h2 x (hm 2 e)
theorem znK (how : Int) (o : zaA) : zbt (asX how o) = zbt o := by
 funext x; unfold zbt asX; split <;> rfl
theorem zmh (o : zaA) : zfz o [] = if okO o then 0 else 1 := by
 unfold zfz
 cases h : okO o <;> simp [za4]
set_option maxHeartbeats 2000000 in
theorem zjB (W : World) (p : Nat) (A : Option Addr) (c : Nat) (l : List zaA) (o : zaA) (how : Int) (hB : zbh l) :
 zaL Tryz.prog W 208 [.pointer (some ⟨p, 0, none⟩), .agg o.enc.toArray, .int .i64 how] (za9 p A c l []) (.bool (newB how o l)) := by
 refine zaL.ofD (fun h' hs => ?_)
 have m1 := hs _ mem0
 have m2 := hs _ mem1
 refine zan Tryz.func208 rfl rfl Tryz.results208 Tryz.ntmps208 rfl rfl ?_
 by_cases h1 : how < 0 ∨ how > 4
 ·have hv : newB how o l = false := by
   unfold newB
   rcases h1 with h | h
   ·rw [show decide (0 ≤ how) = false by simp; omega]; rfl
   ·rw [show decide (how ≤ 4) = false by simp; omega]; simp
  rw [hv]
  repeat' (first | apply zae | apply zaa | apply zaj | apply zad | apply zab hT; iterate 4 exact rfl | apply zaq; iterate 3 exact rfl | apply zaK; (iterate 5 exact rfl); intro _ | apply zak; iterate 2 exact rfl | (apply zav; exact rfl; all_goals (intro hb; (fail_if_success (change true = true at hb)); (fail_if_success (change false = false at hb)); (try dsimp only at hb); (try simp only [hb]); (first | replace hb := odt hb | replace hb := odf hb ); (try omega))) | (apply zam; exact rfl; all_goals (intro hb; (try dsimp only at hb); (try simp only [hb]); (first | replace hb := odt hb | replace hb := odf hb ); (try omega))))
  all_goals first
   | (exfalso; omega)
   | (apply ret1; exact rfl; exact ⟨rfl, by (repeat (first | exact zar | apply zat))⟩)
 by_cases h2 : how = 4 ∧ o.price ≠ 0
 ·have hv : newB how o l = false := by
   unfold newB
   have e : (!(how == 4 && !(o.price == 0))) = false := by simp [h2.1, h2.2]
   rw [e]; simp
  rw [hv]
  repeat' (first | apply zae | apply zaa | apply zaj | apply zah | apply zad | apply zab hT; iterate 4 exact rfl | (apply zal; (iterate 5 exact rfl); first | (apply zaC hT; exact rfl; exact rfl; (repeat (first | exact mcs )); exact rfl; exact rfl) ) | apply zaK; (iterate 5 exact rfl); intro _ | (apply zav; exact rfl; all_goals (intro hb; (fail_if_success (change true = true at hb)); (fail_if_success (change false = false at hb)); (try dsimp only at hb); (try simp only [hb]); (first | replace hb := odt hb | replace hb := odf hb ); (try omega))) | (apply zam; exact rfl; all_goals (intro hb; (try dsimp only at hb); (try simp only [hb]); (first | replace hb := odt hb | replace hb := odf hb | replace hb := zaD hb | replace hb := zaE hb ); (try omega))))
  all_goals first
   | (exfalso; omega)
   | (apply ret1; exact rfl; exact ⟨rfl, by (repeat (first | exact zar | apply zat))⟩)
 have hv : newB how o l = (okO (asX how o) && decide (za4 (zbt (asX how o)) l < 0)) := by
  unfold newB
  rw [show decide (0 ≤ how) = true by simp; omega, show decide (how ≤ 4) = true by simp; omega, show (!(how == 4 && !(o.price == 0))) = true by simp; omega, znK]
  simp
 rw [hv]
 have hS := fun s h m1 m2 => zd8 W h p A c l s m1 m2 hB.le hB.seq hB.side
 have hs1 := zcU 1 l
 have hs2 := zcU 2 l
 have hbl := hB.len
 have hcl := zkT (o := asX how o) hB
 have hct : ∀ (o' : zaA) (s : Int) h g1 A2 c2, (zbf s l).length ≤ 1000000 → OwnF A2 (zbf s l).length c2 6 ((zbf s l).flatMap zaA.enc) → zax.own A2 (zbf s l).length c2 52 6 ((zbf s l).flatMap zaA.enc) ∈ h → zax.blk g1 52 o'.enc ∈ h → zaL Tryz.prog W 214 [.slice A2 (zbf s l).length c2, .func (.func 222) #[] #[.pointer (some ⟨g1, 0, none⟩)]] h (.bool (decide (za4 (zbt o') (zbf s l) ≥ 0))) := fun o' s h g1 A2 c2 hle hf n1 n2 =>
  zdt W h A2 _ c2 (zbf s l) rfl (hf.reads n1) _ [_] (zbt o') (fun x _ => (ziM W o' x g1).mono (zfw n2)) (by omega)
 have hadd := fun p A c h => zfW W h p A c [] (asX how o) (by simp)
 rw [zmh] at hadd
 by_cases h4 : how = 4
 ·have has : asX how o = { o with price := 1 } := by unfold asX; rw [if_pos h4]
  rw [has] at hcl hadd ⊢
  repeat' (first | apply zae | apply zaa | apply zah | apply zaf | apply zad | apply zab hT; iterate 4 exact rfl | apply zaK; (iterate 5 exact rfl); intro g4 | (apply zaF hT; (iterate 6 exact rfl); (repeat (first | exact sel0 )); (iterate 3 exact rfl); exact nle rfl) | apply zao hT; (iterate 12 exact rfl); intro g25 | (apply zal; (iterate 5 exact rfl); first | (apply zaC hT; exact rfl; exact rfl; (repeat (first | exact mcs )); exact rfl; exact rfl) ) | (apply zav; exact rfl; all_goals (intro hb; (fail_if_success (change true = true at hb)); (fail_if_success (change false = false at hb)); (try dsimp only at hb); (try simp only [hb]); (first | replace hb := odt hb | replace hb := odf hb ); (try omega))) | (apply zam; exact rfl; all_goals (intro hb; (try dsimp only at hb); (try simp only [hb]); (first | replace hb := odt hb | replace hb := odf hb | replace hb := zaD hb | replace hb := zaE hb ); (try omega))))
  all_goals try omega
  refine zbj (α := Nat) (E := fun k => [(0, .pointer (some ⟨p, 0, none⟩)), (4, .pointer (some ⟨g4, 0, none⟩)), (25, .slice (some ⟨g25, 0, none⟩) 2 2), (26, .int .i64 2), (27, .int .i64 k)])
   (H := fun k => .own (some ⟨g25, 0, none⟩) 2 2 3 1 [.int .i64 1, .int .i64 2] :: .blk g4 52 (zaA.enc { o with price := 1 }) :: h') (μ := fun k => 2 - k)
   (S := fun k => k ≤ 2 ∧ (1 ≤ k → za4 (zbt { o with price := 1 }) (zbf 1 l) < 0) ∧ (2 ≤ k → za4 (zbt { o with price := 1 }) (zbf 2 l) < 0)) 0 ⟨by omega, fun h => by omega, fun h => by omega⟩ ⟨rfl, rfl, rfl, rfl, rfl, trivial⟩ (by (repeat (first | exact zar))) ?_
  rintro k ⟨hk, hk1, hk2⟩
  have hrd : zaJ W (.own (some ⟨g25, 0, none⟩) 2 2 3 1 [.int .i64 1, .int .i64 2] :: .blk g4 52 (zaA.enc { o with price := 1 }) :: h') (some ⟨g25, 0, none⟩) 2 1 [.int .i64 1, .int .i64 2] := zaJ.own mem0 rfl (List.all_eq_true.1 (rfl : ([.int .i64 1, .int .i64 2] : List Value).all Value.oneCell' = true))
  rcases (show k = 0 ∨ k = 1 ∨ k = 2 by omega) with rfl | rfl | rfl
  ·have hd1 : decide (((0 : Nat) : Int) < 2) = true := by decide
   have hx2 : ([.int .i64 1, .int .i64 2] : List Value)[((0 : Nat) : Int).toNat * 1]? = some (.int .i64 1) := rfl
   rcases Int.lt_or_le (za4 (zbt { o with price := 1 }) (zbf 1 l)) 0 with hn | hn
   ·have hct1 := hct { o with price := 1 } 1
    rw [show decide (za4 (zbt { o with price := 1 }) (zbf 1 l) ≥ 0) = false by simp; omega] at hct1
    repeat' (first | apply zae | apply zaa | apply zah | apply zaf | apply zad | apply zab hT; iterate 4 exact rfl | (apply zaN hT; (iterate 4 exact rfl); (iterate 2 (first | omega ))) | apply zaS hT; (iterate 8 exact rfl); (iterate 2 omega); exact rfl | apply zal; (iterate 5 exact rfl); exact zbl hT rfl rfl hrd rfl hx2 | apply zaz (hs := (hS 1 _ (.tail _ (.tail _ m1)) (.tail _ (.tail _ m2)))); (iterate 7 exact rfl); rintro _ _ ⟨AS, cS, rfl, rfl, hfS⟩ | (apply zac (hs := (hct1 _ _ _ _ (by omega) hfS (by (repeat (first | exact mcs ))) (by (repeat (first | exact mcs | apply mcm))))); iterate 7 exact rfl) | apply zak; iterate 2 exact rfl | apply zag; iterate 2 exact rfl)
    all_goals first
     | (exfalso; omega)
     | exact zaR 1 (by decide) ⟨by omega, fun _ => hn, fun h => absurd h (by decide)⟩ ⟨rfl, rfl, rfl, rfl, rfl, trivial⟩ (by (repeat (first | exact zar | (apply zay; · (repeat (first | exact sel0 | apply selS))) | apply zat)))
     | (apply zdh; exact zaR 1 (by decide) ⟨by omega, fun _ => hn, fun h => absurd h (by decide)⟩ ⟨rfl, rfl, rfl, rfl, rfl, trivial⟩ (by (repeat (first | exact zar | (apply zay; · (repeat (first | exact sel0 | apply selS))) | apply zat))))
     | skip
   ·have hct1 := hct { o with price := 1 } 1
    rw [show decide (za4 (zbt { o with price := 1 }) (zbf 1 l) ≥ 0) = true by simp; omega] at hct1
    repeat' (first | apply zae | apply zaa | apply zaj | apply zah | apply zaf | apply zad | apply zab hT; iterate 4 exact rfl | apply zaS hT; (iterate 8 exact rfl); (iterate 2 omega); exact rfl | apply zal; (iterate 5 exact rfl); exact zbl hT rfl rfl hrd rfl hx2 | apply zaz (hs := (hS 1 _ (.tail _ (.tail _ m1)) (.tail _ (.tail _ m2)))); (iterate 7 exact rfl); rintro _ _ ⟨AS, cS, rfl, rfl, hfS⟩ | (apply zac (hs := (hct1 _ _ _ _ (by omega) hfS (by (repeat (first | exact mcs ))) (by (repeat (first | exact mcs | apply mcm))))); iterate 7 exact rfl) | apply zak; iterate 2 exact rfl)
    all_goals first
     | (exfalso; omega)
     | (apply ret1; exact rfl
        refine ⟨?_, by (repeat (first | exact zar | apply zat))⟩
        rw [show decide (za4 (zbt { o with price := 1 }) l < 0) = false by rw [decide_eq_false_iff_not, hcl]; omega, Bool.and_false])
     | skip
  ·have hd1 : decide (((1 : Nat) : Int) < 2) = true := by decide
   have hx2 : ([.int .i64 1, .int .i64 2] : List Value)[((1 : Nat) : Int).toNat * 1]? = some (.int .i64 2) := rfl
   rcases Int.lt_or_le (za4 (zbt { o with price := 1 }) (zbf 2 l)) 0 with hn | hn
   ·have hct1 := hct { o with price := 1 } 2
    rw [show decide (za4 (zbt { o with price := 1 }) (zbf 2 l) ≥ 0) = false by simp; omega] at hct1
    repeat' (first | apply zae | apply zaa | apply zah | apply zaf | apply zad | apply zab hT; iterate 4 exact rfl | (apply zaN hT; (iterate 4 exact rfl); (iterate 2 (first | omega ))) | apply zaS hT; (iterate 8 exact rfl); (iterate 2 omega); exact rfl | apply zal; (iterate 5 exact rfl); exact zbl hT rfl rfl hrd rfl hx2 | apply zaz (hs := (hS 2 _ (.tail _ (.tail _ m1)) (.tail _ (.tail _ m2)))); (iterate 7 exact rfl); rintro _ _ ⟨AS, cS, rfl, rfl, hfS⟩ | (apply zac (hs := (hct1 _ _ _ _ (by omega) hfS (by (repeat (first | exact mcs ))) (by (repeat (first | exact mcs | apply mcm))))); iterate 7 exact rfl) | apply zak; iterate 2 exact rfl | apply zag; iterate 2 exact rfl)
    all_goals first
     | (exfalso; omega)
     | exact zaR 2 (by decide) ⟨by omega, fun _ => hk1 (by decide), fun _ => hn⟩ ⟨rfl, rfl, rfl, rfl, rfl, trivial⟩ (by (repeat (first | exact zar | (apply zay; · (repeat (first | exact sel0 | apply selS))) | apply zat)))
     | (apply zdh; exact zaR 2 (by decide) ⟨by omega, fun _ => hk1 (by decide), fun _ => hn⟩ ⟨rfl, rfl, rfl, rfl, rfl, trivial⟩ (by (repeat (first | exact zar | (apply zay; · (repeat (first | exact sel0 | apply selS))) | apply zat))))
     | skip
   ·have hct1 := hct { o with price := 1 } 2
    rw [show decide (za4 (zbt { o with price := 1 }) (zbf 2 l) ≥ 0) = true by simp; omega] at hct1
    repeat' (first | apply zae | apply zaa | apply zaj | apply zah | apply zaf | apply zad | apply zab hT; iterate 4 exact rfl | apply zaS hT; (iterate 8 exact rfl); (iterate 2 omega); exact rfl | apply zal; (iterate 5 exact rfl); exact zbl hT rfl rfl hrd rfl hx2 | apply zaz (hs := (hS 2 _ (.tail _ (.tail _ m1)) (.tail _ (.tail _ m2)))); (iterate 7 exact rfl); rintro _ _ ⟨AS, cS, rfl, rfl, hfS⟩ | (apply zac (hs := (hct1 _ _ _ _ (by omega) hfS (by (repeat (first | exact mcs ))) (by (repeat (first | exact mcs | apply mcm))))); iterate 7 exact rfl) | apply zak; iterate 2 exact rfl)
    all_goals first
     | (exfalso; omega)
     | (apply ret1; exact rfl
        refine ⟨?_, by (repeat (first | exact zar | apply zat))⟩
        rw [show decide (za4 (zbt { o with price := 1 }) l < 0) = false by rw [decide_eq_false_iff_not, hcl]; omega, Bool.and_false])
     | skip
  ·have hd1 : decide (((2 : Nat) : Int) < 2) = false := by decide
   have hall := hcl.2 ⟨hk1 (by decide), hk2 (by decide)⟩
   rw [decide_eq_true hall, Bool.and_true]
   cases hok : okO { o with price := 1 }
   ·rw [hok] at hadd
    repeat' (first | apply zae | apply zaa | apply zaj | apply zas | apply zad | apply zab hT; iterate 4 exact rfl | (apply zel [.blk g4 52 (zaA.enc { o with price := 1 })] [] [38, 197] (.step 1 <| .step 0 <| .step 2 <| .step 3 <| .step 4 <| .nil) hmix; decide +kernel) | apply zcX | apply zbN; exact rfl | (apply zcr (hs := (zfV W _)); (iterate 7 exact rfl); (rintro _ _ ⟨pn, An, cn, rfl, rfl⟩; refine ⟨by (apply zfw; (repeat (first | exact mcs | apply mcm))), ?_⟩)) | (apply zcr (hs := (hadd _ _ _ _)); (iterate 7 exact rfl); (rintro _ _ ⟨rfl, An2, cn2, rfl⟩; refine ⟨by (apply zfw; (repeat (first | exact mcs | apply mcm))), ?_⟩)) | ((first | (apply zej; (iterate 5 exact rfl); first | (apply zfw; (repeat (first | exact mcs | apply mcm))))); first | (apply zaQ hT; exact rfl; exact rfl; (repeat (first | exact mcs )); exact rfl)) | apply zag; iterate 2 exact rfl)
    all_goals first
     | (exfalso; omega)
     | (apply ret1; exact rfl; exact ⟨rfl, by (repeat (first | exact zar | apply zat))⟩)
     | skip
   ·rw [hok] at hadd
    repeat' (first | apply zae | apply zaa | apply zaj | apply zas | apply zad | apply zab hT; iterate 4 exact rfl | (apply zel [.blk g4 52 (zaA.enc { o with price := 1 })] [] [38, 197] (.step 1 <| .step 0 <| .step 2 <| .step 3 <| .step 4 <| .nil) hmix; decide +kernel) | apply zcX | apply zbN; exact rfl | (apply zcr (hs := (zfV W _)); (iterate 7 exact rfl); (rintro _ _ ⟨pn, An, cn, rfl, rfl⟩; refine ⟨by (apply zfw; (repeat (first | exact mcs | apply mcm))), ?_⟩)) | (apply zcr (hs := (hadd _ _ _ _)); (iterate 7 exact rfl); (rintro _ _ ⟨rfl, An2, cn2, rfl⟩; refine ⟨by (apply zfw; (repeat (first | exact mcs | apply mcm))), ?_⟩)) | ((first | (apply zej; (iterate 5 exact rfl); first | (apply zfw; (repeat (first | exact mcs | apply mcm))))); first | (apply zaQ hT; exact rfl; exact rfl; (repeat (first | exact mcs )); exact rfl)) | apply zag; iterate 2 exact rfl)
    all_goals first
     | (exfalso; omega)
     | (apply ret1; exact rfl; exact ⟨rfl, by (repeat (first | exact zar | apply zat))⟩)
     | skip
 ·have has : asX how o = o := by unfold asX; rw [if_neg h4]
  rw [has] at hcl hadd ⊢
  repeat' (first | apply zae | apply zaa | apply zah | apply zaf | apply zad | apply zab hT; iterate 4 exact rfl | apply zaK; (iterate 5 exact rfl); intro g4 | apply zao hT; (iterate 12 exact rfl); intro g25 | (apply zav; exact rfl; all_goals (intro hb; (fail_if_success (change true = true at hb)); (fail_if_success (change false = false at hb)); (try dsimp only at hb); (try simp only [hb]); (first | replace hb := odt hb | replace hb := odf hb ); (try omega))) | (apply zam; exact rfl; all_goals (intro hb; (try dsimp only at hb); (try simp only [hb]); (first | replace hb := odt hb | replace hb := odf hb ); (try omega))))
  all_goals try omega
  refine zbj (α := Nat) (E := fun k => [(0, .pointer (some ⟨p, 0, none⟩)), (4, .pointer (some ⟨g4, 0, none⟩)), (25, .slice (some ⟨g25, 0, none⟩) 2 2), (26, .int .i64 2), (27, .int .i64 k)])
   (H := fun k => .own (some ⟨g25, 0, none⟩) 2 2 3 1 [.int .i64 1, .int .i64 2] :: .blk g4 52 (zaA.enc o) :: h') (μ := fun k => 2 - k)
   (S := fun k => k ≤ 2 ∧ (1 ≤ k → za4 (zbt o) (zbf 1 l) < 0) ∧ (2 ≤ k → za4 (zbt o) (zbf 2 l) < 0)) 0 ⟨by omega, fun h => by omega, fun h => by omega⟩ ⟨rfl, rfl, rfl, rfl, rfl, trivial⟩ (by (repeat (first | exact zar))) ?_
  rintro k ⟨hk, hk1, hk2⟩
  have hrd : zaJ W (.own (some ⟨g25, 0, none⟩) 2 2 3 1 [.int .i64 1, .int .i64 2] :: .blk g4 52 (zaA.enc o) :: h') (some ⟨g25, 0, none⟩) 2 1 [.int .i64 1, .int .i64 2] := zaJ.own mem0 rfl (List.all_eq_true.1 (rfl : ([.int .i64 1, .int .i64 2] : List Value).all Value.oneCell' = true))
  rcases (show k = 0 ∨ k = 1 ∨ k = 2 by omega) with rfl | rfl | rfl
  ·have hd1 : decide (((0 : Nat) : Int) < 2) = true := by decide
   have hx2 : ([.int .i64 1, .int .i64 2] : List Value)[((0 : Nat) : Int).toNat * 1]? = some (.int .i64 1) := rfl
   rcases Int.lt_or_le (za4 (zbt o) (zbf 1 l)) 0 with hn | hn
   ·have hct1 := hct o 1
    rw [show decide (za4 (zbt o) (zbf 1 l) ≥ 0) = false by simp; omega] at hct1
    repeat' (first | apply zae | apply zaa | apply zah | apply zaf | apply zad | apply zab hT; iterate 4 exact rfl | (apply zaN hT; (iterate 4 exact rfl); (iterate 2 (first | omega ))) | apply zaS hT; (iterate 8 exact rfl); (iterate 2 omega); exact rfl | apply zal; (iterate 5 exact rfl); exact zbl hT rfl rfl hrd rfl hx2 | apply zaz (hs := (hS 1 _ (.tail _ (.tail _ m1)) (.tail _ (.tail _ m2)))); (iterate 7 exact rfl); rintro _ _ ⟨AS, cS, rfl, rfl, hfS⟩ | (apply zac (hs := (hct1 _ _ _ _ (by omega) hfS (by (repeat (first | exact mcs ))) (by (repeat (first | exact mcs | apply mcm))))); iterate 7 exact rfl) | apply zak; iterate 2 exact rfl | apply zag; iterate 2 exact rfl)
    all_goals first
     | (exfalso; omega)
     | exact zaR 1 (by decide) ⟨by omega, fun _ => hn, fun h => absurd h (by decide)⟩ ⟨rfl, rfl, rfl, rfl, rfl, trivial⟩ (by (repeat (first | exact zar | (apply zay; · (repeat (first | exact sel0 | apply selS))) | apply zat)))
     | (apply zdh; exact zaR 1 (by decide) ⟨by omega, fun _ => hn, fun h => absurd h (by decide)⟩ ⟨rfl, rfl, rfl, rfl, rfl, trivial⟩ (by (repeat (first | exact zar | (apply zay; · (repeat (first | exact sel0 | apply selS))) | apply zat))))
     | skip
   ·have hct1 := hct o 1
    rw [show decide (za4 (zbt o) (zbf 1 l) ≥ 0) = true by simp; omega] at hct1
    repeat' (first | apply zae | apply zaa | apply zaj | apply zah | apply zaf | apply zad | apply zab hT; iterate 4 exact rfl | apply zaS hT; (iterate 8 exact rfl); (iterate 2 omega); exact rfl | apply zal; (iterate 5 exact rfl); exact zbl hT rfl rfl hrd rfl hx2 | apply zaz (hs := (hS 1 _ (.tail _ (.tail _ m1)) (.tail _ (.tail _ m2)))); (iterate 7 exact rfl); rintro _ _ ⟨AS, cS, rfl, rfl, hfS⟩ | (apply zac (hs := (hct1 _ _ _ _ (by omega) hfS (by (repeat (first | exact mcs ))) (by (repeat (first | exact mcs | apply mcm))))); iterate 7 exact rfl) | apply zak; iterate 2 exact rfl)
    all_goals first
     | (exfalso; omega)
     | (apply ret1; exact rfl
        refine ⟨?_, by (repeat (first | exact zar | apply zat))⟩
        rw [show decide (za4 (zbt o) l < 0) = false by rw [decide_eq_false_iff_not, hcl]; omega, Bool.and_false])
     | skip
  ·have hd1 : decide (((1 : Nat) : Int) < 2) = true := by decide
   have hx2 : ([.int .i64 1, .int .i64 2] : List Value)[((1 : Nat) : Int).toNat * 1]? = some (.int .i64 2) := rfl
   rcases Int.lt_or_le (za4 (zbt o) (zbf 2 l)) 0 with hn | hn
   ·have hct1 := hct o 2
    rw [show decide (za4 (zbt o) (zbf 2 l) ≥ 0) = false by simp; omega] at hct1
    repeat' (first | apply zae | apply zaa | apply zah | apply zaf | apply zad | apply zab hT; iterate 4 exact rfl | (apply zaN hT; (iterate 4 exact rfl); (iterate 2 (first | omega ))) | apply zaS hT; (iterate 8 exact rfl); (iterate 2 omega); exact rfl | apply zal; (iterate 5 exact rfl); exact zbl hT rfl rfl hrd rfl hx2 | apply zaz (hs := (hS 2 _ (.tail _ (.tail _ m1)) (.tail _ (.tail _ m2)))); (iterate 7 exact rfl); rintro _ _ ⟨AS, cS, rfl, rfl, hfS⟩ | (apply zac (hs := (hct1 _ _ _ _ (by omega) hfS (by (repeat (first | exact mcs ))) (by (repeat (first | exact mcs | apply mcm))))); iterate 7 exact rfl) | apply zak; iterate 2 exact rfl | apply zag; iterate 2 exact rfl)
    all_goals first
     | (exfalso; omega)
     | exact zaR 2 (by decide) ⟨by omega, fun _ => hk1 (by decide), fun _ => hn⟩ ⟨rfl, rfl, rfl, rfl, rfl, trivial⟩ (by (repeat (first | exact zar | (apply zay; · (repeat (first | exact sel0 | apply selS))) | apply zat)))
     | (apply zdh; exact zaR 2 (by decide) ⟨by omega, fun _ => hk1 (by decide), fun _ => hn⟩ ⟨rfl, rfl, rfl, rfl, rfl, trivial⟩ (by (repeat (first | exact zar | (apply zay; · (repeat (first | exact sel0 | apply selS))) | apply zat))))
     | skip
   ·have hct1 := hct o 2
    rw [show decide (za4 (zbt o) (zbf 2 l) ≥ 0) = true by simp; omega] at hct1
    repeat' (first | apply zae | apply zaa | apply zaj | apply zah | apply zaf | apply zad | apply zab hT; iterate 4 exact rfl | apply zaS hT; (iterate 8 exact rfl); (iterate 2 omega); exact rfl | apply zal; (iterate 5 exact rfl); exact zbl hT rfl rfl hrd rfl hx2 | apply zaz (hs := (hS 2 _ (.tail _ (.tail _ m1)) (.tail _ (.tail _ m2)))); (iterate 7 exact rfl); rintro _ _ ⟨AS, cS, rfl, rfl, hfS⟩ | (apply zac (hs := (hct1 _ _ _ _ (by omega) hfS (by (repeat (first | exact mcs ))) (by (repeat (first | exact mcs | apply mcm))))); iterate 7 exact rfl) | apply zak; iterate 2 exact rfl)
    all_goals first
     | (exfalso; omega)
     | (apply ret1; exact rfl
        refine ⟨?_, by (repeat (first | exact zar | apply zat))⟩
        rw [show decide (za4 (zbt o) l < 0) = false by rw [decide_eq_false_iff_not, hcl]; omega, Bool.and_false])
     | skip
  ·have hd1 : decide (((2 : Nat) : Int) < 2) = false := by decide
   have hall := hcl.2 ⟨hk1 (by decide), hk2 (by decide)⟩
   rw [decide_eq_true hall, Bool.and_true]
   cases hok : okO o
   ·rw [hok] at hadd
    repeat' (first | apply zae | apply zaa | apply zaj | apply zas | apply zad | apply zab hT; iterate 4 exact rfl | (apply zel [.blk g4 52 (zaA.enc o)] [] [38, 197] (.step 1 <| .step 0 <| .step 2 <| .step 3 <| .step 4 <| .nil) hmix; decide +kernel) | apply zcX | apply zbN; exact rfl | (apply zcr (hs := (zfV W _)); (iterate 7 exact rfl); (rintro _ _ ⟨pn, An, cn, rfl, rfl⟩; refine ⟨by (apply zfw; (repeat (first | exact mcs | apply mcm))), ?_⟩)) | (apply zcr (hs := (hadd _ _ _ _)); (iterate 7 exact rfl); (rintro _ _ ⟨rfl, An2, cn2, rfl⟩; refine ⟨by (apply zfw; (repeat (first | exact mcs | apply mcm))), ?_⟩)) | ((first | (apply zej; (iterate 5 exact rfl); first | (apply zfw; (repeat (first | exact mcs | apply mcm))))); first | (apply zaQ hT; exact rfl; exact rfl; (repeat (first | exact mcs )); exact rfl)) | apply zag; iterate 2 exact rfl)
    all_goals first
     | (exfalso; omega)
     | (apply ret1; exact rfl; exact ⟨rfl, by (repeat (first | exact zar | apply zat))⟩)
     | skip
   ·rw [hok] at hadd
    repeat' (first | apply zae | apply zaa | apply zaj | apply zas | apply zad | apply zab hT; iterate 4 exact rfl | (apply zel [.blk g4 52 (zaA.enc o)] [] [38, 197] (.step 1 <| .step 0 <| .step 2 <| .step 3 <| .step 4 <| .nil) hmix; decide +kernel) | apply zcX | apply zbN; exact rfl | (apply zcr (hs := (zfV W _)); (iterate 7 exact rfl); (rintro _ _ ⟨pn, An, cn, rfl, rfl⟩; refine ⟨by (apply zfw; (repeat (first | exact mcs | apply mcm))), ?_⟩)) | (apply zcr (hs := (hadd _ _ _ _)); (iterate 7 exact rfl); (rintro _ _ ⟨rfl, An2, cn2, rfl⟩; refine ⟨by (apply zfw; (repeat (first | exact mcs | apply mcm))), ?_⟩)) | ((first | (apply zej; (iterate 5 exact rfl); first | (apply zfw; (repeat (first | exact mcs | apply mcm))))); first | (apply zaQ hT; exact rfl; exact rfl; (repeat (first | exact mcs )); exact rfl)) | apply zag; iterate 2 exact rfl)
    all_goals first
     | (exfalso; omega)
     | (apply ret1; exact rfl; exact ⟨rfl, by (repeat (first | exact zar | apply zat))⟩)
     | skip
set_option maxHeartbeats 2000000 in
theorem zjC (W : World) (p : Nat) (A : Option Addr) (c : Nat) (l : List zaA) (o : zaA) (how : Int) (hB : zbh l) :
 zaL Tryz.prog W 193 [.pointer (some ⟨p, 0, none⟩), .agg o.enc.toArray, .int .i64 how] (za9 p A c l []) (.int .i64 (zbP how o l)) := by
 refine zaL.ofD (fun h' hs => ?_)
 have m1 := hs _ mem0
 have m2 := hs _ mem1
 have hN := zjB W p A c l o how hB
 have hS := zgv W how
 have hL := znr W p A c l
 have hM := fun h m1 m2 => zeO W h p A c l o how hB m1 m2
 have hWd := zjA W p A c l o how hB
 refine zan Tryz.func193 rfl rfl Tryz.results193 Tryz.ntmps193 rfl rfl ?_
 cases hnb : newB how o l
 ·have hv : zbP how o l = 1 := by unfold zbP; rw [if_pos hnb]
  rw [hv]
  rw [hnb] at hN
  repeat' (first | apply zae | apply zaa | apply zaj | apply zaf | apply zad | apply zab hT; iterate 4 exact rfl | apply zaK; (iterate 5 exact rfl); intro g4 | apply zac (hs := (hN.mono (zbD (.tail _ m1) (.tail _ m2)))); iterate 7 exact rfl | (apply zal; (iterate 5 exact rfl); first | (apply zaQ hT; exact rfl; exact rfl; (repeat (first | exact mcs )); exact rfl)) | apply zak; iterate 2 exact rfl)
  all_goals first
   | (exfalso; omega)
   | (apply ret1; exact rfl; exact ⟨rfl, by (repeat (first | exact zar | apply zat))⟩)
 rw [hnb] at hN
 have e0 : ¬ newB how o l = false := by rw [hnb]; decide
 by_cases h3 : zcg how = true ∧ l.length ≥ 64
 ·have hv : zbP how o l = 3 := by unfold zbP; rw [if_neg e0, if_pos h3]
  rw [hv]
  rw [h3.1] at hS
  repeat' (first | apply zae | apply zaa | apply zaj | apply zaf | apply zad | apply zab hT; iterate 4 exact rfl | apply zaK; (iterate 5 exact rfl); intro g4 | apply zac (hs := (hN.mono (zbD (.tail _ m1) (.tail _ m2)))); iterate 7 exact rfl | (apply zac (hs := (hS.mono (by simp))); iterate 7 exact rfl) | apply zac (hs := (hL.mono (zbD (.tail _ m1) (.tail _ m2)))); iterate 7 exact rfl | (apply zal; (iterate 5 exact rfl); first | (apply zaQ hT; exact rfl; exact rfl; (repeat (first | exact mcs )); exact rfl)) | apply zag; iterate 2 exact rfl | (apply zam; exact rfl; all_goals (intro hb; (try dsimp only at hb); (try simp only [hb]); (first | replace hb := odt hb | replace hb := odf hb ); (try omega))))
  all_goals first
   | (exfalso; omega)
   | (apply ret1; exact rfl; exact ⟨rfl, by (repeat (first | exact zar | apply zat))⟩)
 have hst : zcg how = false ∨ (zcg how = true ∧ l.length < 64) := by
  cases h : zcg how
  ·exact .inl rfl
  ·refine .inr ⟨rfl, ?_⟩
   rcases Nat.lt_or_ge l.length 64 with h2 | h2
   ·exact h2
   ·exact absurd ⟨h, h2⟩ h3
 by_cases h16 : how = 3
 ·have hs3 : zcg how = true := by rw [h16]; rfl
  have hll : l.length < 64 := by rcases hst with h | h; (rw [hs3] at h; cases h); exact h.2
  rw [hs3] at hS
  by_cases hm0 : (zbF how o l).length > 0
  ·have hv : zbP how o l = 16 := by unfold zbP; rw [if_neg e0, if_neg h3, if_pos ⟨h16, hm0⟩]
   rw [hv]
   generalize zbF how o l = ms at hM hm0
   repeat' (first | apply zae | apply zaa | apply zaj | apply zaf | apply zad | apply zab hT; iterate 4 exact rfl | apply zaK; (iterate 5 exact rfl); intro g4 | apply zac (hs := (hN.mono (zbD (.tail _ m1) (.tail _ m2)))); iterate 7 exact rfl | (apply zac (hs := (hS.mono (by simp))); iterate 7 exact rfl) | apply zac (hs := (hL.mono (zbD (.tail _ m1) (.tail _ m2)))); iterate 7 exact rfl | apply zaz (hs := (hM _ (.tail _ m1) (.tail _ m2))); (iterate 7 exact rfl); rintro _ _ ⟨AM, cM, rfl, rfl, hfM⟩ | (apply zal; (iterate 5 exact rfl); first | (apply zaQ hT; exact rfl; exact rfl; (repeat (first | exact mcs )); exact rfl)) | apply zag; iterate 2 exact rfl | (apply zav; exact rfl; all_goals (intro hb; (fail_if_success (change true = true at hb)); (fail_if_success (change false = false at hb)); (try dsimp only at hb); (try simp only [hb]); (first | replace hb := odt hb | replace hb := odf hb ); (try omega))) | (apply zam; exact rfl; all_goals (intro hb; (try dsimp only at hb); (try simp only [hb]); (first | replace hb := odt hb | replace hb := odf hb ); (try omega))))
   all_goals first
    | (exfalso; omega)
    | (apply ret1; exact rfl; exact ⟨rfl, by (repeat (first | exact zar | apply zat))⟩)
  ·have hv : zbP how o l = 0 := by unfold zbP; rw [if_neg e0, if_neg h3, if_neg (fun h => hm0 h.2), if_neg (by omega)]
   rw [hv]
   generalize zbF how o l = ms at hM hm0
   repeat' (first | apply zae | apply zaa | apply zaj | apply zah | apply zaf | apply zad | apply zab hT; iterate 4 exact rfl | apply zaq; iterate 3 exact rfl | apply zaK; (iterate 5 exact rfl); intro g4 | apply zac (hs := (hN.mono (zbD (.tail _ m1) (.tail _ m2)))); iterate 7 exact rfl | (apply zac (hs := (hS.mono (by simp))); iterate 7 exact rfl) | apply zac (hs := (hL.mono (zbD (.tail _ m1) (.tail _ m2)))); iterate 7 exact rfl | apply zaz (hs := (hM _ (.tail _ m1) (.tail _ m2))); (iterate 7 exact rfl); rintro _ _ ⟨AM, cM, rfl, rfl, hfM⟩ | apply zaM [210] [] hmix; decide +kernel | (apply zal; (iterate 5 exact rfl); first | (apply zaQ hT; exact rfl; exact rfl; (repeat (first | exact mcs )); exact rfl)) | apply zag; iterate 2 exact rfl | (apply zav; exact rfl; all_goals (intro hb; (fail_if_success (change true = true at hb)); (fail_if_success (change false = false at hb)); (try dsimp only at hb); (try simp only [hb]); (first | replace hb := odt hb | replace hb := odf hb ); (try omega))) | (apply zam; exact rfl; all_goals (intro hb; (try dsimp only at hb); (try simp only [hb]); (first | replace hb := odt hb | replace hb := odf hb ); (try omega))))
   all_goals first
    | (exfalso; omega)
    | (apply ret1; exact rfl; exact ⟨rfl, by (repeat (first | exact zar | apply zat))⟩)
 by_cases h17 : how = 2
 ·have hs2 : zcg how = false := by rw [h17]; rfl
  rw [hs2] at hS
  by_cases hw0 : zfP how o l < o.left
  ·have hv : zbP how o l = 17 := by unfold zbP; rw [if_neg e0, if_neg h3, if_neg (fun h => h16 h.1), if_pos ⟨h17, hw0⟩]
   rw [hv]
   generalize zfP how o l = wv at hWd hw0
   repeat' (first | apply zae | apply zaa | apply zaj | apply zaf | apply zad | apply zab hT; iterate 4 exact rfl | apply zaq; iterate 3 exact rfl | apply zaK; (iterate 5 exact rfl); intro g4 | apply zac (hs := (hN.mono (zbD (.tail _ m1) (.tail _ m2)))); iterate 7 exact rfl | (apply zac (hs := (hS.mono (by simp))); iterate 7 exact rfl) | apply zaM [210] [] hmix; decide +kernel | apply zac (hs := (hWd.mono (zbD (.tail _ m1) (.tail _ m2)))); iterate 7 exact rfl | (apply zal; (iterate 5 exact rfl); first | (apply zaC hT; exact rfl; exact rfl; (repeat (first | exact mcs )); exact rfl; exact rfl) | (apply zaQ hT; exact rfl; exact rfl; (repeat (first | exact mcs )); exact rfl)) | apply zag; iterate 2 exact rfl | (apply zav; exact rfl; all_goals (intro hb; (fail_if_success (change true = true at hb)); (fail_if_success (change false = false at hb)); (try dsimp only at hb); (try simp only [hb]); (first | replace hb := odt hb | replace hb := odf hb ); (try omega))) | (apply zam; exact rfl; all_goals (intro hb; (try dsimp only at hb); (try simp only [hb]); (first | replace hb := odt hb | replace hb := odf hb ); (try omega))))
   all_goals first
    | (exfalso; omega)
    | (apply ret1; exact rfl; exact ⟨rfl, by (repeat (first | exact zar | apply zat))⟩)
  ·have hv : zbP how o l = 0 := by unfold zbP; rw [if_neg e0, if_neg h3, if_neg (fun h => h16 h.1), if_neg (fun h => hw0 h.2)]
   rw [hv]
   generalize zfP how o l = wv at hWd hw0
   repeat' (first | apply zae | apply zaa | apply zaj | apply zah | apply zaf | apply zad | apply zab hT; iterate 4 exact rfl | apply zaq; iterate 3 exact rfl | apply zaK; (iterate 5 exact rfl); intro g4 | apply zac (hs := (hN.mono (zbD (.tail _ m1) (.tail _ m2)))); iterate 7 exact rfl | (apply zac (hs := (hS.mono (by simp))); iterate 7 exact rfl) | apply zaM [210] [] hmix; decide +kernel | apply zac (hs := (hWd.mono (zbD (.tail _ m1) (.tail _ m2)))); iterate 7 exact rfl | (apply zal; (iterate 5 exact rfl); first | (apply zaC hT; exact rfl; exact rfl; (repeat (first | exact mcs )); exact rfl; exact rfl) | (apply zaQ hT; exact rfl; exact rfl; (repeat (first | exact mcs )); exact rfl)) | apply zag; iterate 2 exact rfl | (apply zav; exact rfl; all_goals (intro hb; (fail_if_success (change true = true at hb)); (fail_if_success (change false = false at hb)); (try dsimp only at hb); (try simp only [hb]); (first | replace hb := odt hb | replace hb := odf hb ); (try omega))) | (apply zam; exact rfl; all_goals (intro hb; (try dsimp only at hb); (try simp only [hb]); (first | replace hb := odt hb | replace hb := odf hb ); (try omega))))
   all_goals first
    | (exfalso; omega)
    | (apply ret1; exact rfl; exact ⟨rfl, by (repeat (first | exact zar | apply zat))⟩)
 have hv : zbP how o l = 0 := by unfold zbP; rw [if_neg e0, if_neg h3, if_neg (fun h => h16 h.1), if_neg (fun h => h17 h.1)]
 rw [hv]
 rcases hst with hst | ⟨hst, hll⟩
 all_goals
  rw [hst] at hS
  repeat' (first | apply zae | apply zaa | apply zaj | apply zah | apply zaf | apply zad | apply zab hT; iterate 4 exact rfl | apply zaq; iterate 3 exact rfl | apply zaK; (iterate 5 exact rfl); intro g4 | apply zac (hs := (hN.mono (zbD (.tail _ m1) (.tail _ m2)))); iterate 7 exact rfl | (apply zac (hs := (hS.mono (by simp))); iterate 7 exact rfl) | apply zac (hs := (hL.mono (zbD (.tail _ m1) (.tail _ m2)))); iterate 7 exact rfl | apply zaM [210] [] hmix; decide +kernel | (apply zal; (iterate 5 exact rfl); first | (apply zaQ hT; exact rfl; exact rfl; (repeat (first | exact mcs )); exact rfl)) | apply zag; iterate 2 exact rfl | (apply zav; exact rfl; all_goals (intro hb; (fail_if_success (change true = true at hb)); (fail_if_success (change false = false at hb)); (try dsimp only at hb); (try simp only [hb]); (first | replace hb := odt hb | replace hb := odf hb ); (try omega))) | (apply zam; exact rfl; all_goals (intro hb; (try dsimp only at hb); (try simp only [hb]); (first | replace hb := odt hb | replace hb := odf hb ); (try omega))))
  all_goals first
   | (exfalso; omega)
   | (apply ret1; exact rfl; exact ⟨rfl, by (repeat (first | exact zar | apply zat))⟩)
set_option maxHeartbeats 1000000 in
theorem zjD (W : World) (F : List zax) (p g : Nat) (A : Option Addr) (c : Nat) (l : List zaA) (o x : zaA) (hB : zbh l) (ho : 0 ≤ o.left ∧ o.left ≤ 1000000) (hx : 1 ≤ x.left ∧ x.left ≤ 1000000) :
 zaB Tryz.prog W 195 [.pointer (some ⟨p, 0, none⟩), .pointer (some ⟨g, 0, none⟩), .agg x.enc.toArray] (za9 p A c l (.blk g 52 o.enc :: F))
  (fun v h' => v = .agg (zbW.enc ⟨x.id, o.id, x.owner, o.owner, x.price, min o.left x.left, x.left - min o.left x.left⟩).toArray ∧ ∃ A' c', h' = za9 p A' c' (if min o.left x.left = x.left then zbu x.id l else zcd x.id (x.left - min o.left x.left) l) (.blk g 52 (zaA.enc { o with left := o.left - min o.left x.left }) :: F)) := by
 refine zaB.dropTo ?_
 refine zan Tryz.func195 rfl rfl Tryz.results195 Tryz.ntmps195 rfl rfl ?_
 generalize hn : min o.left x.left = n
 have hd := fun g5 g6 => (ze7 W (.blk g6 242 ti242.zero.cells.toList :: .blk g5 52 x.enc :: .blk g 52 (zaA.enc { o with left := o.left - n }) :: F) p A c l x.id hB.le)
 have hls := fun g5 g6 => (ziB W (.blk g6 242 ti242.zero.cells.toList :: .blk g5 52 x.enc :: .blk g 52 (zaA.enc { o with left := o.left - n }) :: F) p A c l x.id (x.left - n) hB.le)
 by_cases hc : n = x.left
 ·rw [if_pos hc]
  have hc2 : (n == x.left) = true := by simpa using hc
  repeat' (first | apply zae | apply zaa | apply zaj | apply zad | apply zab hT; iterate 4 exact rfl | (apply zaN hT; (iterate 4 exact rfl); (iterate 2 (first | omega ))) | apply zaK; (iterate 5 exact rfl); intro g5 | (apply zaI hT; (iterate 5 exact rfl); first | (fail_if_success (have q := g6)); intro g6) | (apply zaM [] [] hmix; decide +kernel) | (apply zjZ; (iterate 5 exact rfl); rw [hn]) | (apply zaF hT; (iterate 6 exact rfl); (repeat (first | exact sel0 | apply selS)); (iterate 3 exact rfl); exact nle rfl) | (apply zaO hT (cs := zbW.enc ⟨x.id, o.id, x.owner, o.owner, x.price, n, x.left - n⟩); iterate 4 exact rfl) | (apply zaz (hs := (zaB.perm (hd g5 g6) (by (repeat (first | exact List.Perm.refl _ | (apply zaX; · (repeat (first | exact sel0 | apply selS)))))))); (iterate 7 exact rfl); rintro _ _ ⟨rfl, A2, c2, rfl⟩) | (apply zal; (iterate 5 exact rfl); first | (apply zaC hT; exact rfl; exact rfl; (repeat (first | exact mcs | apply mcm)); exact rfl; exact rfl) ) | (apply zam; exact rfl; all_goals (intro hb; (try dsimp only at hb); (try simp only [hb]); (first | replace hb := odt hb | replace hb := odf hb ); (try omega))))
  all_goals first
   | (exfalso; omega)
   | (apply zg5; exact rfl; exact zaQ hT rfl rfl (by (repeat (first | exact mcs))) rfl; exact ⟨_, by (repeat (first | exact zar | (apply zay; · (repeat (first | exact sel0 | apply selS))) | apply zat)), rfl, A2, c2, rfl⟩)
   | skip
 ·rw [if_neg hc]
  have hc2 : (n == x.left) = false := by simpa using hc
  repeat' (first | apply zae | apply zaa | apply zaj | apply zad | apply zab hT; iterate 4 exact rfl | (apply zaN hT; (iterate 4 exact rfl); (iterate 2 (first | omega ))) | apply zaK; (iterate 5 exact rfl); intro g5 | (apply zaI hT; (iterate 5 exact rfl); first | (fail_if_success (have q := g6)); intro g6) | (apply zaM [] [] hmix; decide +kernel) | (apply zjZ; (iterate 5 exact rfl); rw [hn]) | (apply zaF hT; (iterate 6 exact rfl); (repeat (first | exact sel0 | apply selS)); (iterate 3 exact rfl); exact nle rfl) | (apply zaO hT (cs := zbW.enc ⟨x.id, o.id, x.owner, o.owner, x.price, n, x.left - n⟩); iterate 4 exact rfl) | (apply zaz (hs := (zaB.perm (hls g5 g6) (by (repeat (first | exact List.Perm.refl _ | (apply zaX; · (repeat (first | exact sel0 | apply selS)))))))); (iterate 7 exact rfl); rintro _ _ ⟨rfl, rfl⟩) | (apply zal; (iterate 5 exact rfl); first | (apply zaC hT; exact rfl; exact rfl; (repeat (first | exact mcs | apply mcm)); exact rfl; exact rfl) ) | (apply zam; exact rfl; all_goals (intro hb; (try dsimp only at hb); (try simp only [hb]); (first | replace hb := odt hb | replace hb := odf hb ); (try omega))))
  all_goals first
   | (exfalso; omega)
   | (apply zg5; exact rfl; exact zaQ hT rfl rfl (by (repeat (first | exact mcs))) rfl; exact ⟨_, by (repeat (first | exact zar | (apply zay; · (repeat (first | exact sel0 | apply selS))) | apply zat)), rfl, A, c, rfl⟩)
   | skip
theorem zgw {o : zaA} {l ms : List zaA} {k : Nat} {x : zaA} (hx : ms[k]? = some x) : runX o l (ms.take (k + 1)) = zdV o (runX o l (ms.take k)) x := by
 unfold runX; rw [List.take_add_one, hx, List.foldl_append]; rfl
theorem zmi {o : zaA} {l ms : List zaA} {k : Nat} (h : (runX o l (ms.take k)).left = 0) : runX o l ms = runX o l (ms.take k) := by
 conv => lhs; rw [← List.take_append_drop k ms]
 have e : runX o l (ms.take k ++ ms.drop k) = (ms.drop k).foldl (zdV o) (runX o l (ms.take k)) := by unfold runX; rw [List.foldl_append]
 rw [e, zhx h]
theorem zkU {o : zaA} {s : XSt} {x : zaA} : (zdV o s x).fills.length ≤ s.fills.length + 1 ∧ (zdV o s x).gones.length ≤ s.gones.length + 1 := by
 unfold zdV
 split
 ·omega
 ·split <;> simp
theorem zfD {o : zaA} {l ms : List zaA} (hl : ∀ x ∈ ms, 1 ≤ x.left) (ho : 0 ≤ o.left) : ∀ k, k ≤ ms.length → 0 ≤ (runX o l (ms.take k)).left ∧ (runX o l (ms.take k)).left ≤ o.left ∧ (runX o l (ms.take k)).fills.length ≤ k ∧ (runX o l (ms.take k)).gones.length ≤ k := by
 intro k
 induction k with
 | zero => intro _; exact ⟨ho, Int.le_refl _, Nat.le_refl _, Nat.le_refl _⟩
 | succ k ih =>
   intro hk
   obtain ⟨x, hx⟩ : ∃ x, ms[k]? = some x := ⟨ms[k]'(by omega), List.getElem?_eq_getElem (by omega)⟩
   rw [zgw hx]
   have h1 := ih (by omega)
   have h2 := zkJ (o := o) (s := runX o l (ms.take k)) (hl x (List.mem_of_getElem? hx)) h1.1
   have h3 := zkU (o := o) (s := runX o l (ms.take k)) (x := x)
   omega
theorem zeb {how : Int} {o : zaA} {l : List zaA} (h : newB how o l = true) : 1 ≤ o.left ∧ o.left ≤ 1000000 := by
 unfold newB at h
 simp only [Bool.and_eq_true] at h
 have := zj5 h.2.2.2.1
 unfold asX at this
 split at this <;> exact this
set_option maxHeartbeats 4000000 in
theorem znL (W : World) (F : List zax) (p : Nat) (A : Option Addr) (c : Nat) (l : List zaA) (o : zaA) (how : Int) (hB : zbh l) :
 zaB Tryz.prog W 171 [.pointer (some ⟨p, 0, none⟩), .agg o.enc.toArray, .int .i64 how] (za9 p A c l F)
  (fun v h' => ∃ Af cf Ag cg A' c', v = .tuple #[.slice Af (doV how o l).fills.length cf, .slice Ag (doV how o l).gones.length cg, .int .i64 (doV how o l).left, .int .i64 (doV how o l).err] ∧
    h' = .own Af (doV how o l).fills.length cf 242 7 ((doV how o l).fills.flatMap zbW.enc) :: .own Ag (doV how o l).gones.length cg 240 3 ((doV how o l).gones.flatMap zcL.enc) :: za9 p A' c' (doV how o l).bk F ∧
    OwnF Af (doV how o l).fills.length cf 7 ((doV how o l).fills.flatMap zbW.enc) ∧ OwnF Ag (doV how o l).gones.length cg 3 ((doV how o l).gones.flatMap zcL.enc)) := by
 refine zaB.dropF ?_
 have hW' := fun h m1 m2 => (zjC W p A c l o how hB).mono (h' := h) (zbD m1 m2)
 have hM := fun h m1 m2 => zeO W h p A c l o how hB m1 m2
 have hS := zgv W how
 refine zan Tryz.func171 rfl rfl Tryz.results171 Tryz.ntmps171 rfl rfl ?_
 by_cases hw0 : zbP how o l = 0
 ·rw [hw0] at hW'
  have hnb : newB how o l = true := by
   cases h : newB how o l
   ·unfold zbP at hw0; rw [if_pos h] at hw0; omega
   ·rfl
  have hol := zeb hnb
  have hml := zgu how o l
  have hbl := hB.len
  have hlf : ∀ x ∈ zbF how o l, 1 ≤ x.left ∧ x.left ≤ 1000000 := fun x hx => hB.left x (zea hx).1
  have hsf0 : ∀ s, s = runX o l (zbF how o l) → s = runX o l (zbF how o l) := fun _ h => h
  generalize hms : zbF how o l = ms at hM hml hlf
  repeat' (first | apply zae | apply zaa | apply zah | apply zaf | apply zad | apply zab hT; iterate 4 exact rfl | apply zaK; (iterate 5 exact rfl); intro g4 | (apply zac (hs := (hW' _ (by (repeat (first | exact mcs | apply mcm))) (by (repeat (first | exact mcs | apply mcm))))); iterate 7 exact rfl) | (apply zaz (hs := (hM _ (by (repeat (first | exact mcs | apply mcm))) (by (repeat (first | exact mcs | apply mcm))))); (iterate 7 exact rfl); rintro _ _ ⟨AM, cM, rfl, rfl, hfM⟩) | (apply zal; (iterate 5 exact rfl); first | (apply zaQ hT; exact rfl; exact rfl; (repeat (first | exact mcs )); exact rfl)) | apply zag; iterate 2 exact rfl)
  all_goals try omega
  refine zbV (fun w hw => ⟨_, (hw.own_nil 240 3).own_nil 242 7, ?_⟩)
  refine zbj (α := Nat × Option Addr × Nat × Option Addr × Nat × Option Addr × Nat) (E := fun x => [(0, .pointer (some ⟨p, 0, none⟩)), (2, .int .i64 how), (4, .pointer (some ⟨g4, 0, none⟩)), (6, .slice x.2.1 (runX o l (ms.take x.1)).fills.length x.2.2.1), (7, .slice x.2.2.2.1 (runX o l (ms.take x.1)).gones.length x.2.2.2.2.1), (23, .slice AM ms.length cM), (24, .int .i64 ms.length), (25, .int .i64 x.1)])
   (H := fun x => .own AM ms.length cM 52 6 (ms.flatMap zaA.enc) :: .own x.2.1 (runX o l (ms.take x.1)).fills.length x.2.2.1 242 7 ((runX o l (ms.take x.1)).fills.flatMap zbW.enc) :: .own x.2.2.2.1 (runX o l (ms.take x.1)).gones.length x.2.2.2.2.1 240 3 ((runX o l (ms.take x.1)).gones.flatMap zcL.enc) :: za9 p x.2.2.2.2.2.1 x.2.2.2.2.2.2 (runX o l (ms.take x.1)).bk (.blk g4 52 (zaA.enc { o with left := (runX o l (ms.take x.1)).left }) :: F))
   (μ := fun x => ms.length - x.1) (S := fun x => x.1 ≤ ms.length) (0, none, 0, none, 0, A, c) (Nat.zero_le _) ⟨rfl, rfl, rfl, rfl, rfl, rfl, rfl, rfl, trivial⟩ (by
     show zbk _ (.own AM ms.length cM 52 6 (ms.flatMap zaA.enc) :: .own none 0 0 242 7 [] :: .own none 0 0 240 3 [] :: za9 p A c l (.blk g4 52 o.enc :: F))
     (repeat (first | exact zar | (apply zay; · (repeat (first | exact sel0 | apply selS)))))) ?_
  rintro ⟨k, Af, cf, Ag, cg, A1, c1⟩ hk
  dsimp only at hk ⊢
  have hfc := zfD (o := o) (l := l) (fun x hx => (hlf x hx).1) (by omega) k hk
  have hBs : zbh (runX o l (ms.take k)).bk := zl1 hB
  by_cases hz : (runX o l (ms.take k)).left = 0
  ·have hsf : runX o l (ms.take k) = runX o l (zbF how o l) := by rw [hms]; exact (zmi hz).symm
   by_cases hlt : k < ms.length
   ·obtain ⟨x, hx⟩ : ∃ x, ms[k]? = some x := ⟨ms[k]'(by omega), List.getElem?_eq_getElem (by omega)⟩
    have hx2 : ms[(k : Int).toNat]? = some x := by simpa using hx
    have hAM := hfM.some_ (by omega)
    have hd1 : decide ((k : Int) < (ms.length : Int)) = true := by simp; omega
    generalize runX o l (ms.take k) = s at hfc hBs hz hsf ⊢
    have hrs : doV how o l = ⟨s.fills, s.gones, s.left, 0, zdW how o s⟩ := by unfold doV; rw [if_pos hw0, ← hsf]
    rw [hrs]
    by_cases hst : zcg how = true ∧ s.left > 0
    ·have hrx : zdW how o s = addO { o with left := s.left } s.bk := by unfold zdW; rw [if_pos hst]
     rw [hrx]
     rw [hst.1] at hS
     have hst2 := hst.2
     have hadd := zfW W (.own AM ms.length cM 52 6 (ms.flatMap zaA.enc) :: .own Af s.fills.length cf 242 7 (s.fills.flatMap zbW.enc) :: .own Ag s.gones.length cg 240 3 (s.gones.flatMap zcL.enc) :: .blk g4 52 (zaA.enc { o with left := s.left }) :: F) p A1 c1 s.bk { o with left := s.left } hBs.le
     repeat' (first | apply zae | apply zaa | apply zad | apply zab hT; iterate 4 exact rfl | (apply zam; exact rfl; all_goals (intro hb; (try dsimp only at hb); (try simp only [hb]); (first | replace hb := odt hb | replace hb := odf hb ); (try omega))))
     all_goals first
      | (exfalso; omega)
      | (apply ret4; exact rfl; exact rfl; exact rfl; exact rfl
         exact ⟨.own Af s.fills.length cf 242 7 (s.fills.flatMap zbW.enc) :: .own Ag s.gones.length cg 240 3 (s.gones.flatMap zcL.enc) :: za9 p A9 c9 (addO { o with left := s.left } s.bk) F, by (repeat (first | exact zar | (apply zay; · (repeat (first | exact sel0 | apply selS))) | apply zat)), fun w hw => ⟨Af, cf, Ag, cg, A9, c9, rfl, rfl, hw.ownF mem0, hw.ownF mem1⟩⟩)
      | skip
    ·have hrx : zdW how o s = s.bk := by unfold zdW; rw [if_neg hst]
     rw [hrx]
     have hcs : zcg how = false ∨ (zcg how = true ∧ s.left ≤ 0) := by
      cases h : zcg how
      ·exact .inl rfl
      ·refine .inr ⟨rfl, ?_⟩
       rcases Int.lt_or_le 0 s.left with h2 | h2
       ·exact absurd ⟨h, h2⟩ hst
       ·exact h2
     rcases hcs with hcs | ⟨hcs, hcl⟩
     all_goals
      rw [hcs] at hS
      repeat' (first | apply zae | apply zaa | apply zaj | apply zah | apply zas | apply zaf | apply zad | apply zab hT; iterate 4 exact rfl | apply zaq; iterate 3 exact rfl | apply zaS hT; (iterate 8 exact rfl); (iterate 2 omega); exact hAM | apply zal; (iterate 5 exact rfl); exact zaY hT rfl rfl (hfM.reads mem0) zaA.enc_len rfl hx2 rfl | (apply zaI hT; (iterate 5 exact rfl); first | (fail_if_success (have q := g12)); intro g12) | (apply zac (hs := (hS.mono (by simp))); iterate 7 exact rfl) | (apply zaM [] [] hmix; decide +kernel) | (apply zaF hT; (iterate 6 exact rfl); (repeat (first | exact sel0 )); (iterate 3 exact rfl); exact nle rfl) | (apply zal; (iterate 5 exact rfl); first | (apply zaC hT; exact rfl; exact rfl; (repeat (first | exact mcs | apply mcm)); exact rfl; exact rfl) ) | (apply zag; iterate 2 exact rfl) | (apply zam; exact rfl; all_goals (intro hb; (try dsimp only at hb); (try simp only [hb]); (first | replace hb := odt hb | replace hb := odf hb ); (try omega))))
      all_goals first
       | (exfalso; omega)
       | (apply ret4; exact rfl; exact rfl; exact rfl; exact rfl
          exact ⟨.own Af s.fills.length cf 242 7 (s.fills.flatMap zbW.enc) :: .own Ag s.gones.length cg 240 3 (s.gones.flatMap zcL.enc) :: za9 p A1 c1 s.bk F, by (repeat (first | exact zar | (apply zay; · (repeat (first | exact sel0 | apply selS))) | apply zat)), fun w hw => ⟨Af, cf, Ag, cg, A1, c1, rfl, rfl, hw.ownF mem0, hw.ownF mem1⟩⟩)
       | skip
   ·obtain rfl : k = ms.length := by omega
    have hd1 : decide ((ms.length : Int) < (ms.length : Int)) = false := by simp
    generalize runX o l (ms.take ms.length) = s at hfc hBs hz hsf ⊢
    have hrs : doV how o l = ⟨s.fills, s.gones, s.left, 0, zdW how o s⟩ := by unfold doV; rw [if_pos hw0, ← hsf]
    rw [hrs]
    by_cases hst : zcg how = true ∧ s.left > 0
    ·have hrx : zdW how o s = addO { o with left := s.left } s.bk := by unfold zdW; rw [if_pos hst]
     rw [hrx]
     rw [hst.1] at hS
     have hst2 := hst.2
     have hadd := zfW W (.own AM ms.length cM 52 6 (ms.flatMap zaA.enc) :: .own Af s.fills.length cf 242 7 (s.fills.flatMap zbW.enc) :: .own Ag s.gones.length cg 240 3 (s.gones.flatMap zcL.enc) :: .blk g4 52 (zaA.enc { o with left := s.left }) :: F) p A1 c1 s.bk { o with left := s.left } hBs.le
     repeat' (first | apply zae | apply zaa | apply zad | apply zab hT; iterate 4 exact rfl | (apply zam; exact rfl; all_goals (intro hb; (try dsimp only at hb); (try simp only [hb]); (first | replace hb := odt hb | replace hb := odf hb ); (try omega))))
     all_goals first
      | (exfalso; omega)
      | (apply ret4; exact rfl; exact rfl; exact rfl; exact rfl
         exact ⟨.own Af s.fills.length cf 242 7 (s.fills.flatMap zbW.enc) :: .own Ag s.gones.length cg 240 3 (s.gones.flatMap zcL.enc) :: za9 p A9 c9 (addO { o with left := s.left } s.bk) F, by (repeat (first | exact zar | (apply zay; · (repeat (first | exact sel0 | apply selS))) | apply zat)), fun w hw => ⟨Af, cf, Ag, cg, A9, c9, rfl, rfl, hw.ownF mem0, hw.ownF mem1⟩⟩)
      | skip
    ·have hrx : zdW how o s = s.bk := by unfold zdW; rw [if_neg hst]
     rw [hrx]
     have hcs : zcg how = false ∨ (zcg how = true ∧ s.left ≤ 0) := by
      cases h : zcg how
      ·exact .inl rfl
      ·refine .inr ⟨rfl, ?_⟩
       rcases Int.lt_or_le 0 s.left with h2 | h2
       ·exact absurd ⟨h, h2⟩ hst
       ·exact h2
     rcases hcs with hcs | ⟨hcs, hcl⟩
     all_goals
      rw [hcs] at hS
      repeat' (first | apply zae | apply zaa | apply zaj | apply zah | apply zas | apply zad | apply zab hT; iterate 4 exact rfl | apply zaq; iterate 3 exact rfl | (apply zac (hs := (hS.mono (by simp))); iterate 7 exact rfl) | apply zaM [] [] hmix; decide +kernel | (apply zal; (iterate 5 exact rfl); first | (apply zaC hT; exact rfl; exact rfl; (repeat (first | exact mcs | apply mcm)); exact rfl; exact rfl) ) | apply zag; iterate 2 exact rfl | (apply zam; exact rfl; all_goals (intro hb; (try dsimp only at hb); (try simp only [hb]); (first | replace hb := odt hb | replace hb := odf hb ); (try omega))))
      all_goals first
       | (exfalso; omega)
       | (apply ret4; exact rfl; exact rfl; exact rfl; exact rfl
          exact ⟨.own Af s.fills.length cf 242 7 (s.fills.flatMap zbW.enc) :: .own Ag s.gones.length cg 240 3 (s.gones.flatMap zcL.enc) :: za9 p A1 c1 s.bk F, by (repeat (first | exact zar | (apply zay; · (repeat (first | exact sel0 | apply selS))) | apply zat)), fun w hw => ⟨Af, cf, Ag, cg, A1, c1, rfl, rfl, hw.ownF mem0, hw.ownF mem1⟩⟩)
       | skip
  ·by_cases hlt : k < ms.length
   ·obtain ⟨x, hx⟩ : ∃ x, ms[k]? = some x := ⟨ms[k]'(by omega), List.getElem?_eq_getElem (by omega)⟩
    have hx2 : ms[(k : Int).toNat]? = some x := by simpa using hx
    have hAM := hfM.some_ (by omega)
    have hd1 : decide ((k : Int) < (ms.length : Int)) = true := by simp; omega
    have hst := zgw (o := o) (l := l) hx
    have hxl := hlf x (List.mem_of_getElem? hx)
    generalize runX o l (ms.take k) = s at hfc hBs hz hst ⊢
    have hz2 : (s.left == 0) = false := beq_eq_false_iff_ne.2 hz
    unfold zdV at hst
    rw [if_neg hz] at hst
    by_cases hown : x.owner = o.owner
    ·rw [if_pos hown] at hst
     have hdr := fun g12 => ze7 W (.blk g12 52 x.enc :: .own AM ms.length cM 52 6 (ms.flatMap zaA.enc) :: .own Af s.fills.length cf 242 7 (s.fills.flatMap zbW.enc) :: .own Ag s.gones.length cg 240 3 (s.gones.flatMap zcL.enc) :: .blk g4 52 (zaA.enc { o with left := s.left }) :: F) p A1 c1 s.bk x.id hBs.le
     repeat' (first | apply zae | apply zaa | apply zah | apply zas | apply zaf | apply zad | apply zab hT; iterate 4 exact rfl | (apply zaN hT; (iterate 4 exact rfl); (iterate 2 (first | omega ))) | apply zaS hT; (iterate 8 exact rfl); (iterate 2 omega); exact hAM | apply zal; (iterate 5 exact rfl); exact zaY hT rfl rfl (hfM.reads mem0) zaA.enc_len rfl hx2 rfl | (apply zaI hT; (iterate 5 exact rfl); first | (fail_if_success (have q := g12)); intro g12) | (apply zaF hT; (iterate 6 exact rfl); (repeat (first | exact sel0 )); (iterate 3 exact rfl); exact nle rfl) | (apply zaz (hs := (zaB.perm (hdr g12) (by (repeat (first | exact List.Perm.refl _ | (apply zaX; · (repeat (first | exact sel0 | apply selS)))))))); (iterate 7 exact rfl); rintro _ _ ⟨rfl, A9, c9, rfl⟩) | (apply zaO hT (cs := zcL.enc ⟨x.id, x.owner, x.left⟩); iterate 4 exact rfl) | (apply zao hT; (iterate 12 exact rfl); intro g) | (apply zbg hT; (iterate 10 exact rfl); (repeat (first | exact sel0 | apply selS)); exact zaJ.own mem0 rfl (zcL.enc_one ⟨x.id, x.owner, x.left⟩); omega; (show (_ : Nat) * 24 ≤ _; omega); intro A' c') | (apply zal; (iterate 5 exact rfl); first | (apply zaC hT; exact rfl; exact rfl; (repeat (first | exact mcs | apply mcm)); exact rfl; exact rfl) ) | (apply zam; exact rfl; all_goals (intro hb; (try dsimp only at hb); (try simp only [hb]); (first | replace hb := odt hb | replace hb := odf hb ); (try omega))))
     all_goals first
      | (exfalso; omega)
      | (refine zaR (k + 1, Af, cf, A', c', A9, c9) (by (try dsimp only); omega) (by (try dsimp only); omega) ?_ ?_
         ·dsimp only; rw [hst]; exact ⟨rfl, rfl, rfl, rfl, by rw [List.length_append]; rfl, rfl, rfl, rfl, trivial⟩
         ·dsimp only; rw [hst]; dsimp only; rw [List.length_append, List.flatMap_append]; (repeat (first | exact zar | (apply zay; · (repeat (first | exact sel0 | apply selS))) | apply zat)))
      | skip
    ·rw [if_neg hown] at hst
     have htr := fun g12 => zjD W (.blk g12 52 x.enc :: .own AM ms.length cM 52 6 (ms.flatMap zaA.enc) :: .own Af s.fills.length cf 242 7 (s.fills.flatMap zbW.enc) :: .own Ag s.gones.length cg 240 3 (s.gones.flatMap zcL.enc) :: F) p g4 A1 c1 s.bk { o with left := s.left } x hBs (by dsimp only; omega) hxl
     dsimp only at htr hst
     generalize hn : min s.left x.left = n at htr hst
     repeat' (first | apply zae | apply zaa | apply zah | apply zaf | apply zad | apply zab hT; iterate 4 exact rfl | (apply zaN hT; (iterate 4 exact rfl); (iterate 2 (first | omega ))) | apply zaS hT; (iterate 8 exact rfl); (iterate 2 omega); exact hAM | apply zal; (iterate 5 exact rfl); exact zaY hT rfl rfl (hfM.reads mem0) zaA.enc_len rfl hx2 rfl | (apply zaI hT; (iterate 5 exact rfl); first | (fail_if_success (have q := g12)); intro g12) | (apply zaF hT; (iterate 6 exact rfl); (repeat (first | exact sel0 )); (iterate 3 exact rfl); exact nle rfl) | (apply zaz (hs := (zaB.perm (htr g12) (by (repeat (first | exact List.Perm.refl _ | (apply zaX; · (repeat (first | exact sel0 | apply selS)))))))); (iterate 7 exact rfl); rintro _ _ ⟨rfl, A9, c9, rfl⟩) | (apply zao hT; (iterate 12 exact rfl); intro g) | (apply zbg hT; (iterate 10 exact rfl); (repeat (first | exact sel0 | apply selS)); exact zaJ.own mem0 rfl (zbW.enc_one ⟨x.id, o.id, x.owner, o.owner, x.price, n, x.left - n⟩); omega; (show (_ : Nat) * 56 ≤ _; omega); intro A' c') | (apply zal; (iterate 5 exact rfl); first | (apply zaC hT; exact rfl; exact rfl; (repeat (first | exact mcs | apply mcm)); exact rfl; exact rfl) | (apply zaQ hT; exact rfl; exact rfl; (repeat (first | exact mcs )); exact rfl)) | (apply zam; exact rfl; all_goals (intro hb; (try dsimp only at hb); (try simp only [hb]); (first | replace hb := odt hb | replace hb := odf hb ); (try omega))))
     all_goals first
      | (exfalso; omega)
      | (refine zaR (k + 1, A', c', Ag, cg, A9, c9) (by (try dsimp only); omega) (by (try dsimp only); omega) ?_ ?_
         ·dsimp only; rw [hst]; exact ⟨rfl, rfl, rfl, by rw [List.length_append]; rfl, rfl, rfl, rfl, rfl, trivial⟩
         ·dsimp only; rw [hst]; dsimp only; rw [List.length_append, List.flatMap_append]; (repeat (first | exact zar | (apply zay; · (repeat (first | exact sel0 | apply selS))) | apply zat)))
      | skip
   ·obtain rfl : k = ms.length := by omega
    have hd1 : decide ((ms.length : Int) < (ms.length : Int)) = false := by simp
    have hsf : runX o l (ms.take ms.length) = runX o l (zbF how o l) := by rw [hms, List.take_length]
    generalize runX o l (ms.take ms.length) = s at hfc hBs hz hsf ⊢
    have hrs : doV how o l = ⟨s.fills, s.gones, s.left, 0, zdW how o s⟩ := by unfold doV; rw [if_pos hw0, ← hsf]
    rw [hrs]
    by_cases hst : zcg how = true ∧ s.left > 0
    ·have hrx : zdW how o s = addO { o with left := s.left } s.bk := by unfold zdW; rw [if_pos hst]
     rw [hrx]
     rw [hst.1] at hS
     have hst2 := hst.2
     have hadd := zfW W (.own AM ms.length cM 52 6 (ms.flatMap zaA.enc) :: .own Af s.fills.length cf 242 7 (s.fills.flatMap zbW.enc) :: .own Ag s.gones.length cg 240 3 (s.gones.flatMap zcL.enc) :: .blk g4 52 (zaA.enc { o with left := s.left }) :: F) p A1 c1 s.bk { o with left := s.left } hBs.le
     repeat' (first | apply zae | apply zaa | apply zaj | apply zas | apply zad | apply zab hT; iterate 4 exact rfl | (apply zac (hs := (hS.mono (by simp))); iterate 7 exact rfl) | (apply zaz (hs := (zaB.perm hadd (by (repeat (first | exact List.Perm.refl _ | (apply zaX; · (repeat (first | exact sel0 | apply selS)))))))); (iterate 7 exact rfl); rintro _ _ ⟨rfl, A9, c9, rfl⟩) | apply zaM [] [] hmix; decide +kernel | (apply zal; (iterate 5 exact rfl); first | (apply zaC hT; exact rfl; exact rfl; (repeat (first | exact mcs | apply mcm)); exact rfl; exact rfl) | (apply zaQ hT; exact rfl; exact rfl; (repeat (first | exact mcs | apply mcm)); exact rfl)) | (apply zam; exact rfl; all_goals (intro hb; (try dsimp only at hb); (try simp only [hb]); (first | replace hb := odt hb | replace hb := odf hb ); (try omega))))
     all_goals first
      | (exfalso; omega)
      | (apply ret4; exact rfl; exact rfl; exact rfl; exact rfl
         exact ⟨.own Af s.fills.length cf 242 7 (s.fills.flatMap zbW.enc) :: .own Ag s.gones.length cg 240 3 (s.gones.flatMap zcL.enc) :: za9 p A9 c9 (addO { o with left := s.left } s.bk) F, by (repeat (first | exact zar | (apply zay; · (repeat (first | exact sel0 | apply selS))) | apply zat)), fun w hw => ⟨Af, cf, Ag, cg, A9, c9, rfl, rfl, hw.ownF mem0, hw.ownF mem1⟩⟩)
      | skip
    ·have hrx : zdW how o s = s.bk := by unfold zdW; rw [if_neg hst]
     rw [hrx]
     have hcs : zcg how = false ∨ (zcg how = true ∧ s.left ≤ 0) := by
      cases h : zcg how
      ·exact .inl rfl
      ·refine .inr ⟨rfl, ?_⟩
       rcases Int.lt_or_le 0 s.left with h2 | h2
       ·exact absurd ⟨h, h2⟩ hst
       ·exact h2
     rcases hcs with hcs | ⟨hcs, hcl⟩
     all_goals
      rw [hcs] at hS
      repeat' (first | apply zae | apply zaa | apply zaj | apply zah | apply zas | apply zad | apply zab hT; iterate 4 exact rfl | apply zaq; iterate 3 exact rfl | (apply zac (hs := (hS.mono (by simp))); iterate 7 exact rfl) | apply zaM [] [] hmix; decide +kernel | (apply zal; (iterate 5 exact rfl); first | (apply zaC hT; exact rfl; exact rfl; (repeat (first | exact mcs | apply mcm)); exact rfl; exact rfl) ) | apply zag; iterate 2 exact rfl | (apply zam; exact rfl; all_goals (intro hb; (try dsimp only at hb); (try simp only [hb]); (first | replace hb := odt hb | replace hb := odf hb ); (try omega))))
      all_goals first
       | (exfalso; omega)
       | (apply ret4; exact rfl; exact rfl; exact rfl; exact rfl
          exact ⟨.own Af s.fills.length cf 242 7 (s.fills.flatMap zbW.enc) :: .own Ag s.gones.length cg 240 3 (s.gones.flatMap zcL.enc) :: za9 p A1 c1 s.bk F, by (repeat (first | exact zar | (apply zay; · (repeat (first | exact sel0 | apply selS))) | apply zat)), fun w hw => ⟨Af, cf, Ag, cg, A1, c1, rfl, rfl, hw.ownF mem0, hw.ownF mem1⟩⟩)
       | skip
 ·have hd : doV how o l = ⟨[], [], 0, zbP how o l, l⟩ := by unfold doV; rw [if_neg hw0]
  rw [hd]
  have hne : (zbP how o l != 0) = true := by simp [hw0]
  generalize zbP how o l = e at hW' hw0 hne
  refine zbV (fun w hw => ⟨_, (hw.own_nil 240 3).own_nil 242 7, ?_⟩)
  repeat' (first | apply zae | apply zaa | apply zaj | apply zad | apply zab hT; iterate 4 exact rfl | apply zaK; (iterate 5 exact rfl); intro g4 | (apply zac (hs := (hW' _ (by (repeat (first | exact mcs | apply mcm))) (by (repeat (first | exact mcs | apply mcm))))); iterate 7 exact rfl) | (apply zal; (iterate 5 exact rfl); first | (apply zaQ hT; exact rfl; exact rfl; (repeat (first | exact mcs )); exact rfl)) | (apply zam; exact rfl; all_goals (intro hb; (try dsimp only at hb); (try simp only [hb]); (first | replace hb := zaD hb | replace hb := zaE hb ); (try omega))))
  all_goals first
   | (exfalso; omega)
   | (apply ret4; exact rfl; exact rfl; exact rfl; exact rfl
      exact ⟨.own none 0 0 242 7 [] :: .own none 0 0 240 3 [] :: za9 p A c l F, by (repeat (first | exact zar | (apply zay; · (repeat (first | exact sel0 | apply selS))) | apply zat)), fun w hw => ⟨none, 0, none, 0, A, c, rfl, rfl, hw.ownF mem0, hw.ownF mem1⟩⟩)
   | (exfalso; simp_all; done)
   | skip
end Go.Proofs.YtakilgkpfjhfdaaGreat
namespace Go.Proofs.YtakilgkpfjhfdaaGreat
open Go Go.Sl
def sumQ (f : List zbW) : Int := (f.map zbW.qty).sum
theorem znM (a b : List zbW) : sumQ (a ++ b) = sumQ a + sumQ b := by simp only [sumQ, List.map_append]; exact zfA _ _
theorem zeq {how : Int} {o : zaA} {l : List zaA} (h : zbP how o l = 0) : newB how o l = true := by
 cases hn : newB how o l
 ·unfold zbP at h; rw [if_pos hn] at h; omega
 ·rfl
structure zqW (o : zaA) (f : zbW) (x : zaA) : Prop where
 maker : f.maker = x.id
 taker : f.taker = o.id
 mparty : f.mparty = x.owner
 tparty : f.tparty = o.owner
 price : f.price = x.price
 left : f.left = x.left - f.qty
 qty : 1 ≤ f.qty
 own : x.owner ≠ o.owner
structure WayX (o : zaA) (l : List zaA) (done : List zaA) (s : XSt) : Prop where
 sum : sumQ s.fills = o.left - s.left
 left : s.left = o.left - min o.left (sumL (zcR o done))
 mks : ∃ xs : List zaA, xs.Sublist done ∧ xs.length = s.fills.length ∧ (∀ (i : Nat) f x, s.fills[i]? = some f → xs[i]? = some x → zqW o f x ∧ (f.left ≠ 0 → s.left = 0 ∧ i + 1 = s.fills.length))
 sub : ∀ y ∈ s.bk, ∃ x ∈ l, y.id = x.id ∧ y.seq = x.seq ∧ y.side = x.side ∧ y.price = x.price ∧ y.owner = x.owner
 len : s.bk.length ≤ l.length
theorem zcC {id : Int} {l : List zaA} {y : zaA} (h : y ∈ zbu id l) : y ∈ l := (ze8 id l).subset h
theorem zgx {id left : Int} {l : List zaA} {y : zaA} (h : y ∈ zcd id left l) : ∃ x ∈ l, y.id = x.id ∧ y.seq = x.seq ∧ y.side = x.side ∧ y.price = x.price ∧ y.owner = x.owner := by
 unfold zcd at h
 split at h
 ·exact ⟨y, h, rfl, rfl, rfl, rfl, rfl⟩
 ·rename_i x hx
  split at h
  ·rcases List.mem_or_eq_of_mem_set h with h | h
   ·exact ⟨y, h, rfl, rfl, rfl, rfl, rfl⟩
   ·exact ⟨x, List.mem_of_find?_eq_some hx, by rw [h], by rw [h], by rw [h], by rw [h], by rw [h]⟩
  ·exact ⟨y, h, rfl, rfl, rfl, rfl, rfl⟩
theorem zmj (id left : Int) (l : List zaA) : (zcd id left l).length = l.length := by
 unfold zcd
 split
 ·rfl
 ·split
  ·simp
  ·rfl
theorem ziN (o : zaA) (a : List zaA) (x : zaA) : sumL (zcR o (a ++ [x])) = sumL (zcR o a) + if x.owner = o.owner then 0 else x.left := by
 unfold zcR
 rw [List.filter_append, zgm]
 by_cases h : x.owner = o.owner <;> simp [h, sumL]
theorem zmk (o : zaA) (l : List zaA) (ho : 0 ≤ o.left) : WayX o l [] ⟨o.left, l, [], []⟩ where
 sum := by simp [sumQ]
 left := by simp [zcR, sumL]; omega
 mks := ⟨[], List.Sublist.refl _, rfl, fun i f x h => by simp at h⟩
 sub := fun y hy => ⟨y, hy, rfl, rfl, rfl, rfl, rfl⟩
 len := Nat.le_refl _
theorem znN {o : zaA} {l done : List zaA} {s : XSt} {x : zaA} (h : WayX o l done s) (hd : ∀ y ∈ done, 1 ≤ y.left) (hx : 1 ≤ x.left) (hl : 0 ≤ s.left) (ho : 0 ≤ o.left) : WayX o l (done ++ [x]) (zdV o s x) := by
 have hpos : 0 ≤ sumL (zcR o done) := by
  have key : ∀ m : List zaA, (∀ y ∈ m, 1 ≤ y.left) → 0 ≤ sumL m := by
   intro m
   induction m with
   | nil => intro _; simp [sumL]
   | cons y m ih => intro hm; have := hm y mcs; have := ih (fun z hz => hm z (mcm _ hz)); simp only [sumL, List.map_cons, List.sum_cons] at *; omega
  exact key _ (fun y hy => hd y (List.mem_filter.1 hy).1)
 have hs := h.sum
 have hle := h.left
 obtain ⟨xs, hx1, hx2, hx3⟩ := h.mks
 have hsum := ziN o done x
 unfold zdV
 split
 ·rename_i h0
  refine ⟨hs, ?_, ⟨xs, hx1.trans (List.sublist_append_left _ _), hx2, hx3⟩, h.sub, h.len⟩
  rw [hsum]; split <;> omega
 ·rename_i h0
  split
  ·rename_i hown
   refine ⟨hs, ?_, ⟨xs, hx1.trans (List.sublist_append_left _ _), hx2, ?_⟩, fun y hy => h.sub y (zcC hy), Nat.le_trans (ze8 _ _).length_le h.len⟩
   ·rw [hsum, if_pos hown]; dsimp only; omega
   ·exact hx3
  ·rename_i hown
   refine ⟨?_, ?_, ⟨xs ++ [x], hx1.append (List.Sublist.refl _), by simp [hx2], ?_⟩, ?_, ?_⟩
   ·rw [znM]; dsimp only; simp only [sumQ, List.map_cons, List.map_nil, List.sum_cons, List.sum_nil] at hs ⊢; omega
   ·rw [hsum, if_neg hown]; dsimp only; omega
   ·intro i f y hf hy
    dsimp only at hf ⊢
    rcases Nat.lt_trichotomy i s.fills.length with hi | hi | hi
    ·rw [List.getElem?_append_left hi] at hf
     rw [List.getElem?_append_left (by omega)] at hy
     obtain ⟨k1, k2⟩ := hx3 i f y hf hy
     exact ⟨k1, fun hne => absurd (k2 hne).1 h0⟩
    ·subst hi
     rw [List.getElem?_append_right (Nat.le_refl _), Nat.sub_self] at hf
     rw [← hx2, List.getElem?_append_right (Nat.le_refl _), Nat.sub_self] at hy
     simp only [List.getElem?_cons_zero, Option.some.injEq] at hf hy
     subst hf hy
     refine ⟨⟨rfl, rfl, rfl, rfl, rfl, rfl, by dsimp only; omega, hown⟩, fun hne => ?_⟩
     dsimp only at hne ⊢
     refine ⟨by omega, by simp⟩
    ·rw [List.getElem?_eq_none (by simp; omega)] at hf; cases hf
   ·dsimp only
    intro y hy
    split at hy
    ·exact h.sub y (zcC hy)
    ·obtain ⟨z, hz, e1, e2, e3, e4, e5⟩ := zgx hy
     obtain ⟨x', hx', k1, k2, k3, k4, k5⟩ := h.sub z hz
     exact ⟨x', hx', by rw [e1, k1], by rw [e2, k2], by rw [e3, k3], by rw [e4, k4], by rw [e5, k5]⟩
   ·dsimp only
    split
    ·exact Nat.le_trans (ze8 _ _).length_le h.len
    ·rw [zmj]; exact h.len
theorem zo5 {o : zaA} {l ms : List zaA} (hm : ∀ y ∈ ms, 1 ≤ y.left) (ho : 0 ≤ o.left) : WayX o l ms (runX o l ms) := by
 have key : ∀ k, k ≤ ms.length → WayX o l (ms.take k) (runX o l (ms.take k)) := by
  intro k
  induction k with
  | zero => intro _; exact zmk o l ho
  | succ k ih =>
    intro hk
    obtain ⟨x, hx⟩ : ∃ x, ms[k]? = some x := ⟨ms[k]'(by omega), List.getElem?_eq_getElem (by omega)⟩
    have h1 := ih (by omega)
    have h2 := (zfD (o := o) (l := l) hm ho k (by omega)).1
    rw [zgw hx, List.take_add_one, hx]
    exact znN h1 (fun y hy => hm y (List.mem_of_mem_take hy)) (hm x (List.mem_of_getElem? hx)) h2 ho
 have := key ms.length (Nat.le_refl _)
 rw [List.take_length] at this
 exact this
theorem zjE {how : Int} {o : zaA} {l : List zaA} (hB : zbh l) (h0 : zbP how o l = 0) : WayX o l (zbF how o l) (runX o l (zbF how o l)) ∧ (doV how o l).fills = (runX o l (zbF how o l)).fills ∧ (doV how o l).left = (runX o l (zbF how o l)).left ∧ (doV how o l).err = 0 := by
 have hol := zeb (zeq h0)
 refine ⟨zo5 (fun y hy => (hB.left y (zea hy).1).1) (by omega), ?_⟩
 unfold doV
 rw [if_pos h0]
 exact ⟨rfl, rfl, rfl⟩
theorem zgy {how : Int} {o : zaA} {l : List zaA} (hB : zbh l) : (doV how o l).fills.length ≤ 64 ∧ (doV how o l).gones.length ≤ 64 := by
 unfold doV
 split
 ·rename_i h0
  have hol := zeb (zeq h0)
  have hml := zgu how o l
  have hbl := hB.len
  have := zfD (o := o) (l := l) (ms := zbF how o l) (fun x hx => (hB.left x (zea hx).1).1) (by omega) (zbF how o l).length (Nat.le_refl _)
  rw [List.take_length] at this
  dsimp only
  omega
 ·simp
theorem zjF {how : Int} {o : zaA} {l : List zaA} (h0 : zbP how o l ≠ 0) : doV how o l = ⟨[], [], 0, zbP how o l, l⟩ := by unfold doV; rw [if_neg h0]
end Go.Proofs.YtakilgkpfjhfdaaGreat
namespace Go.Proofs.YtakilgkpfjhfdaaGreat
open Go Go.Sl
attribute [local irreducible] AW ES EP Ld RetQ
set_option maxRecDepth 100000
def idC (q : zaG) : List Value := [.int .i64 q.id]
theorem zo6 (q : zaG) : ∀ v ∈ idC q, v.oneCell' = true := List.all_eq_true.1 (rfl : (idC q).all Value.oneCell' = true)
theorem zml (W : World) (F : List zax) (p : Nat) (A : Option Addr) (c : Nat) (l : List zaG) (ask : Int) (hb : l.length ≤ 1000000) :
 zaB Tryz.prog W 138 [.pointer (some ⟨p, 0, none⟩), .int .i64 ask] (zbo p A c l F)
  (fun v h' => ∃ A' c', v = .slice A' (l.filter (zdw ask)).length c' ∧ h' = .own A' (l.filter (zdw ask)).length c' 2 1 ((l.filter (zdw ask)).flatMap idC) :: zbo p A c (l.filter fun x => !zdw ask x) F ∧ OwnF A' (l.filter (zdw ask)).length c' 1 ((l.filter (zdw ask)).flatMap idC)) := by
 refine zaB.dropF ?_
 refine zan Tryz.func138 rfl rfl Tryz.results138 Tryz.ntmps138 rfl rfl ?_
 refine zbm (h := zbo p A c l F) mem1 (fun hl hnc hcc hsome hnone hone => ?_)
 have hall : ∀ g1, zaB Tryz.prog W 74 [.pointer (some ⟨p, 0, none⟩), .func (.func 168) #[] #[.pointer (some ⟨g1, 0, none⟩)]] (.blk g1 2 [.int .i64 ask] :: zbo p A c l F) _ := fun g1 =>
  zjv W _ p A c l mem1 (zaJ.own mem2 hl hone) hb _ [_] (zdw ask) (fun x _ => (zkM W x g1 ask).mono (by intro c hc; simp only [List.mem_cons, List.not_mem_nil, or_false] at hc; rcases hc with rfl; simp))
 have hfl := List.length_filter_le (zdw ask) l
 generalize hfe : l.filter (zdw ask) = fl at hall hfl ⊢
 repeat' (first | apply zae | apply zaa | apply zaf | apply zad | apply zab hT; iterate 4 exact rfl | apply zaK; (iterate 5 exact rfl); intro g3 | apply zaz (hs := (hall _)); (iterate 7 exact rfl); rintro _ _ ⟨AO, cO, rfl, rfl, hf⟩)
 refine zbV (fun w hw => ⟨_, hw.own_nil 2 1, ?_⟩)
 refine zbU (α := Nat × Option Addr × Nat) (E := fun x => [(0, .pointer (some ⟨p, 0, none⟩)), (3, .pointer (some ⟨g3, 0, none⟩)), (5, .slice x.2.1 x.1 x.2.2), (10, .slice AO fl.length cO), (11, .int .i64 fl.length), (12, .int .i64 x.1)])
  (H := fun x => .own x.2.1 x.1 x.2.2 2 1 ((fl.take x.1).flatMap idC) :: .own AO fl.length cO 115 6 (fl.flatMap zaG.enc) :: .blk g3 2 [.int .i64 ask] :: zbo p A c l F) (μ := fun x => fl.length - x.1)
  (S := fun x => x.1 ≤ fl.length) (0, none, 0) (J := []) (Nat.zero_le _) ⟨rfl, rfl, rfl, rfl, rfl, rfl, trivial⟩ (List.Perm.refl _) ?_
 rintro ⟨k, A5, c5⟩ hk
 dsimp only at hk ⊢
 by_cases hlt : k < fl.length
 ·obtain ⟨x, hx⟩ : ∃ x, fl[k]? = some x := ⟨fl[k]'(by omega), List.getElem?_eq_getElem (by omega)⟩
  have hx2 : fl[(k : Int).toNat]? = some x := by simpa using hx
  have hA := hf.some_ (by omega)
  have hd1 : decide ((k : Int) < (fl.length : Int)) = true := by simp; omega
  repeat' (first | apply zae | apply zaa | apply zah | apply zaf | apply zad | apply zab hT; iterate 4 exact rfl | apply zaN hT; (iterate 4 exact rfl); (iterate 2 omega) | apply zaS hT; (iterate 8 exact rfl); (iterate 2 omega); exact hA | apply zal; (iterate 5 exact rfl); exact zaY hT rfl rfl (hf.reads mem1) zaG.enc_len rfl hx2 rfl | apply zaI hT; (iterate 5 exact rfl); intro g7 | apply zaF hT; (iterate 6 exact rfl); exact sel0; (iterate 3 exact rfl); exact nle rfl | apply zao hT; (iterate 12 exact rfl); intro g | (apply zbg hT; (iterate 10 exact rfl); (first | exact selS sel1 ); exact zaJ.own mem0 rfl (zo6 x); omega; (show (_ : Nat) * 8 ≤ _; omega); intro A' c') | (apply zal; (iterate 5 exact rfl); first | exact zaC hT rfl rfl mem0 rfl rfl ) | (apply zam; exact rfl; all_goals (intro hb; (try simp only [hb]); (first | replace hb := odt hb | replace hb := odf hb ); (try omega))))
  refine zaR (k + 1, A', c') (by dsimp only; omega) (by dsimp only; omega) ⟨rfl, rfl, rfl, rfl, rfl, rfl, trivial⟩ ?_
  dsimp only
  rw [List.take_add_one, hx, List.flatMap_append]
  apply zay; (first | exact sel0)
  apply zay; (first | exact selS sel1)
  apply zay; (first | exact selS sel1)
  apply zay; (first | exact selS sel1)
  apply zay; (first | exact selS sel1)
  (repeat (first | exact zar | apply zat))
 ·obtain rfl : k = fl.length := by omega
  have hd1 : decide ((fl.length : Int) < (fl.length : Int)) = false := by simp
  rw [List.take_length]
  have hdel : zaB Tryz.prog W 169 [.slice A l.length c, .func (.func 170) #[] #[.pointer (some ⟨g3, 0, none⟩)]] (.own A5 fl.length c5 2 1 (fl.flatMap idC) :: .own AO fl.length cO 115 6 (fl.flatMap zaG.enc) :: .blk g3 2 [.int .i64 ask] :: zbo p A c l F) _ :=
   (zgq W (.own A5 fl.length c5 2 1 (fl.flatMap idC) :: .own AO fl.length cO 115 6 (fl.flatMap zaG.enc) :: .blk g3 2 [.int .i64 ask] :: .blk p 129 [.slice A l.length c] :: F) A c l _ [_] (zdw ask)
     (fun x _ => (zkN W x g3 ask).mono (by intro c hc; simp only [List.mem_cons, List.not_mem_nil, or_false] at hc; rcases hc with rfl; simp)) hb).perm (selS (selS (selS (selS sel0))))
  repeat' (first | apply zae | apply zaa | apply zaj | apply zas | apply zad | apply zab hT; iterate 4 exact rfl | apply zaz (hs := hdel); (iterate 7 exact rfl); rintro _ _ ⟨rfl, rfl⟩ | (apply zaF hT; (iterate 6 exact rfl); (first | exact selS (selS (selS sel1)) ); (iterate 3 exact rfl); exact nle rfl) | (apply zal; (iterate 5 exact rfl); first | exact zaC hT rfl rfl mem3 rfl rfl ) | apply zak; iterate 2 exact rfl | (apply zam; exact rfl; all_goals (intro hb; (try simp only [hb]); (first | replace hb := odt hb | replace hb := odf hb ); (try omega))))
  apply ret1; exact rfl
  refine ⟨.own A5 fl.length c5 2 1 (fl.flatMap idC) :: zbo p A c (l.filter fun x => !zdw ask x) F, ?_, fun w hw => ⟨A5, c5, rfl, rfl, hw.ownF mem0⟩⟩
  apply zay; (first | exact selS sel1)
  apply zay; (first | exact sel0)
  apply zay; (first | exact sel0)
  (repeat (first | exact zar | apply zat))
/-! ### the table's own law: of one ask and one dealer one is live at most -/
def oneQ (l : List zaG) : Prop := l.Pairwise fun a b => a.live = true → b.live = true → ¬ (a.ask = b.ask ∧ a.dealer = b.dealer)
structure TabQ (l : List zaG) : Prop where
 up : upQ l
 one : oneQ l
theorem zdS (q x : zaG) : (offQ q x).id = x.id := by unfold offQ; split <;> rfl
theorem zh8 (q x : zaG) : (offQ q x).ask = x.ask := by unfold offQ; split <;> rfl
theorem zeP (q x : zaG) : (offQ q x).dealer = x.dealer := by unfold offQ; split <;> rfl
theorem zgz {q x : zaG} (h : (offQ q x).live = true) : x.live = true ∧ ¬ (x.ask = q.ask ∧ x.dealer = q.dealer) := by
 unfold offQ at h
 split at h
 ·cases h
 ·rename_i hm
  refine ⟨h, fun e => hm ?_⟩
  simp [metQ, e.1, e.2, h]
theorem zgA {id : Int} {l : List zaG} (hup : upQ l) (h : bsB (cQ id) l = false) : ∀ x ∈ l, x.id ≠ id := by
 intro x hx he
 obtain ⟨i, hi⟩ := List.getElem?_of_mem hx
 have hb : bsN (cQ id) l = i := zhp (by have := (List.getElem?_eq_some_iff.1 hi).1; omega) (fun k y hk hy => by
  rw [ziG]
  obtain ⟨h1, rfl⟩ := List.getElem?_eq_some_iff.1 hi
  obtain ⟨h2, rfl⟩ := List.getElem?_eq_some_iff.1 hy
  have := List.pairwise_iff_getElem.1 hup k i h2 h1 hk
  omega) (fun y hy => by rw [hi] at hy; cases hy; rw [ziG]; omega)
 unfold bsB at h
 rw [hb, hi] at h
 simp [cQ, cmpI, he] at h
theorem znO {q : zaG} {l : List zaG} (h : TabQ l) : TabQ (putQ q l) := by
 unfold putQ
 split
 ·exact h
 ·rename_i hb
  have hbad : badQ q l = false := by simpa using hb
  simp only [badQ, Bool.or_eq_false_iff] at hbad
  have hB := hbad.1.1.1.1.1
  have hne := zgA h.up hB
  have hup2 : upQ (l.map (offQ q)) := by
   unfold upQ; rw [List.pairwise_map]
   exact h.up.imp (fun {a b} hab => by rw [zdS, zdS]; exact hab)
  have hone2 : oneQ (l.map (offQ q)) := by
   unfold oneQ; rw [List.pairwise_map]
   exact h.one.imp (fun {a b} hab ha hb => by rw [zh8, zh8, zeP, zeP]; exact hab (zgz ha).1 (zgz hb).1)
  have hbs : bsN (cQ q.id) l = ((l.map (offQ q)).takeWhile fun x => decide (x.id < q.id)).length := by
   unfold bsN
   rw [List.takeWhile_map, List.length_map]
   congr 2
   funext x
   simp only [Function.comp, zdS]
   exact decide_eq_decide.2 ziG
  refine ⟨zlz (f := zaG.id) hup2 (fun x hx => ?_) hbs, ?_⟩
  ·obtain ⟨y, hy, rfl⟩ := List.mem_map.1 hx
   rw [zdS]; exact hne y hy
  ·refine ((zfT (l.map (offQ q)) q _).pairwise_iff (fun {a b} hab ha hb hk => hab hb ha ⟨hk.1.symm, hk.2.symm⟩)).2 ?_
   rw [List.pairwise_cons]
   refine ⟨fun x hx _ hxl hk => ?_, hone2⟩
   obtain ⟨y, hy, rfl⟩ := List.mem_map.1 hx
   rw [zh8, zeP] at hk
   exact (zgz hxl).2 ⟨hk.1.symm, hk.2.symm⟩
theorem znP {q : zaG} {l : List zaG} : (putQ q l).length ≤ l.length + 1 := by
 unfold putQ
 split
 ·omega
 ·simp; omega
structure znQ where
 kind : Int
 ask : AskR
def znQ.enc (a : znQ) : List Value := .int .i64 a.kind :: a.ask.enc
theorem znQ.enc_len (a : znQ) : a.enc.length = 11 := rfl
theorem zpH {l : List AskR} (hup : upA l) {i : Nat} {x : AskR} (hi : l[i]? = some x) : bsN (cA x.id) l = i ∧ bsB (cA x.id) l = true := by
 have hb : bsN (cA x.id) l = i := zhp (by have := (List.getElem?_eq_some_iff.1 hi).1; omega) (fun k y hk hy => by
  rw [zka]
  obtain ⟨h1, rfl⟩ := List.getElem?_eq_some_iff.1 hi
  obtain ⟨h2, rfl⟩ := List.getElem?_eq_some_iff.1 hy
  exact List.pairwise_iff_getElem.1 hup k i h2 h1 hk) (fun y hy => by rw [hi] at hy; cases hy; rw [zka]; omega)
 refine ⟨hb, ?_⟩
 unfold bsB
 rw [hb, hi]
 simp [cA, cmpI]
theorem zjG {id : Int} {l : List AskR} {x y : AskR} (hup : upA l) (hx : l[bsN (cA id) l]? = some x) (he : y.id = x.id) : upA (setA id y l) := by
 unfold upA setA at *
 rw [← List.pairwise_map (f := AskR.id) (R := (· < ·))] at hup ⊢
 obtain ⟨hlt, hxe⟩ := List.getElem?_eq_some_iff.1 hx
 have : (l.set (bsN (cA id) l) y).map AskR.id = l.map AskR.id := by
  rw [List.map_set, he, ← hxe]
  apply List.ext_getElem?
  intro i
  by_cases hi : bsN (cA id) l = i
  ·subst hi; rw [List.getElem?_set_self (by simpa using hlt)]; simp [hlt]
  ·rw [List.getElem?_set_ne hi]
 rw [this]; exact hup
theorem zo7 {a : AskR} {l : List AskR} (h : upA l) : upA (addA a l) := by
 unfold addA
 split
 ·rename_i h0
  have hB : bsB (cA a.id) l = false := by
   cases hB : bsB (cA a.id) l
   ·rfl
   ·simp [addE, hB] at h0
  refine zlz (f := AskR.id) h (fun x hx => ?_) (by
   unfold bsN
   congr 2
   funext x
   exact decide_eq_decide.2 zka)
  intro he
  obtain ⟨i, hi⟩ := List.getElem?_of_mem hx
  have := (zpH h hi).2
  rw [he, hB] at this; cases this
 ·exact h
theorem znR {a : AskR} {l : List AskR} : (addA a l).length ≤ l.length + 1 := by
 unfold addA; split
 ·simp; omega
 ·omega
theorem gotX {id : Int} {l : List AskR} {x : AskR} (h : getA id l = some x) : l[bsN (cA id) l]? = some x := by
 unfold getA at h; split at h
 ·exact h
 ·cases h
theorem znS {id quote until_ : Int} {l : List AskR} (h : upA l) : upA (zdX id quote until_ l) ∧ (zdX id quote until_ l).length = l.length := by
 unfold zdX
 split
 ·exact ⟨h, rfl⟩
 ·rename_i x hx
  split
  ·exact ⟨zjG h (gotX hx) rfl, by simp [setA]⟩
  ·exact ⟨h, rfl⟩
theorem zkd {id : Int} {l : List AskR} (h : upA l) : upA (zey id l) ∧ (zey id l).length = l.length := by
 unfold zey
 split
 ·exact ⟨h, rfl⟩
 ·rename_i x hx
  split
  ·exact ⟨zjG h (gotX hx) rfl, by simp [setA]⟩
  ·exact ⟨h, rfl⟩
theorem zfE {id state : Int} {l : List AskR} (h : upA l) : upA (endA id state l) ∧ (endA id state l).length = l.length := by
 unfold endA
 split
 ·exact ⟨h, rfl⟩
 ·rename_i x hx
  split
  ·exact ⟨zjG h (gotX hx) (by unfold endX; split <;> rfl), by simp [setA]⟩
  ·exact ⟨h, rfl⟩
end Go.Proofs.YtakilgkpfjhfdaaGreat
namespace Go.Proofs.YtakilgkpfjhfdaaGreat
open Go Go.Sl
def ltD (a b : Due) : Prop := a.tick < b.tick ∨ (a.tick = b.tick ∧ (a.kind < b.kind ∨ (a.kind = b.kind ∧ a.id < b.id)))
def keyD (a b : Due) : Prop := a.kind = b.kind ∧ a.id = b.id
theorem zh9 {a b : Due} : ordD a b < 0 ↔ ltD a b := by
 unfold ordD ltD
 simp only [orI, cmpI]
 repeat' split
 all_goals omega
theorem ziO {a b c : Due} (h1 : ltD a b) (h2 : ltD b c) : ltD a c := by unfold ltD at *; omega
theorem zmm {a b : Due} (h1 : ¬ ltD a b) (h2 : ¬ keyD a b) : ltD b a := by unfold ltD keyD at *; omega
structure RowD (l : List Due) : Prop where
 up : l.Pairwise ltD
 once : l.Pairwise fun a b => ¬ keyD a b
theorem zfY {kind id : Int} {d : Due} : hasD kind id d = true ↔ d.kind = kind ∧ d.id = id := by simp [hasD]
theorem zgB {α : Type} {p : α → Bool} {l : List α} : za4 p l < 0 ↔ ∀ x ∈ l, p x = false := by
 constructor
 ·intro h x hx
  induction l with
  | nil => cases hx
  | cons y l ih =>
    unfold za4 at h
    split at h
    ·omega
    ·rename_i hp
     have h1 : za4 p l < 0 := by
      simp only at h
      split at h
      ·assumption
      ·omega
     rcases List.mem_cons.1 hx with rfl | hx
     ·simpa using hp
     ·exact ih h1 hx
 ·intro h
  have := zcc (p := p) (l := l) (fun j y hj => h y (List.mem_of_getElem? hj))
  omega
theorem zgC {α : Type} {p : α → Bool} : ∀ {l : List α} {i : Nat}, za4 p l = (i : Int) → ∃ x, l[i]? = some x ∧ p x = true
 | [], i, h => by simp [za4] at h
 | y :: l, i, h => by
   unfold za4 at h
   split at h
   ·rename_i hp; obtain rfl : i = 0 := by omega
    exact ⟨y, rfl, hp⟩
   ·simp only at h
    split at h
    ·omega
    ·obtain ⟨k, rfl⟩ : ∃ k, i = k + 1 := ⟨i - 1, by omega⟩
     obtain ⟨x, hx, hpx⟩ := zgC (p := p) (l := l) (i := k) (by omega)
     exact ⟨x, by simpa using hx, hpx⟩
theorem RowD.mono {l : List Due} (h : RowD l) {d : Due} : ∀ (i j : Nat) x y, i ≤ j → l[i]? = some x → l[j]? = some y → ordD y d < 0 → ordD x d < 0 := by
 intro i j x y hij hx hy hd
 rw [zh9] at *
 rcases Nat.lt_or_ge i j with hlt | hge
 ·obtain ⟨hi, rfl⟩ := List.getElem?_eq_some_iff.1 hx
  obtain ⟨hj, rfl⟩ := List.getElem?_eq_some_iff.1 hy
  exact ziO (List.pairwise_iff_getElem.1 h.up i j hi hj hlt) hd
 ·obtain rfl : i = j := by omega
  rw [hx] at hy; cases hy; exact hd
theorem ziP (l : List Due) (d : Due) : (insD l d).Perm (d :: l) := by
 unfold insD
 rw [List.append_assoc, List.singleton_append]
 exact List.perm_middle.trans (by rw [List.take_append_drop])
theorem zia {l : List Due} {d x : Due} : x ∈ insD l d ↔ x = d ∨ x ∈ l := by rw [(ziP l d).mem_iff]; simp
theorem znT {l : List Due} {d : Due} (h : RowD l) (hn : ∀ x ∈ l, ¬ keyD x d) : RowD (insD l d) := by
 constructor
 ·unfold insD
  have hl : ∀ x ∈ l.take (bsN (ordD · d) l), ltD x d := fun x hx => by
   have := zcj (p := fun x => decide (ordD x d < 0)) (l := l) x hx
   exact zh9.1 (by simpa using this)
  have hsplit : l.take (bsN (ordD · d) l) ++ l.drop (bsN (ordD · d) l) = l := List.take_append_drop _ _
  have hp := h.up
  rw [← hsplit, List.pairwise_append] at hp
  obtain ⟨p1, p2, p3⟩ := hp
  have hr : ∀ y ∈ l.drop (bsN (ordD · d) l), ltD d y := fun y hy => by
   cases hm : l.drop (bsN (ordD · d) l) with
   | nil => rw [hm] at hy; cases hy
   | cons z m =>
     have hz := zcw (p := fun x => decide (ordD x d < 0)) (l := l) hm
     have hzl : z ∈ l := List.mem_of_mem_drop (by rw [hm]; simp)
     have hdz : ltD d z := zmm (fun e => by have := zh9.2 e; simp at hz; omega) (fun e => hn z hzl e)
     rw [hm] at hy p2
     rcases List.mem_cons.1 hy with rfl | hy
     ·exact hdz
     ·exact ziO hdz (List.rel_of_pairwise_cons p2 hy)
  rw [List.append_assoc, List.pairwise_append]
  refine ⟨p1, ?_, fun x hx y hy => ?_⟩
  ·rw [List.singleton_append, List.pairwise_cons]
   exact ⟨hr, p2⟩
  ·rw [List.singleton_append] at hy
   rcases List.mem_cons.1 hy with rfl | hy
   ·exact hl x hx
   ·exact p3 x hx y hy
 ·refine ((ziP l d).pairwise_iff (fun {a b} hab hk => hab ⟨hk.1.symm, hk.2.symm⟩)).2 ?_
  rw [List.pairwise_cons]
  exact ⟨fun x hx hk => hn x hx ⟨hk.1.symm, hk.2.symm⟩, h.once⟩
theorem zer {l : List Due} {d : Due} (h : RowD l) : RowD (addD l d) := by
 unfold addD
 split
 ·rename_i hi
  rw [zgB] at hi
  exact znT h (fun x hx hk => by have := hi x hx; simp [hasD, hk.1, hk.2] at this)
 ·exact h
theorem znU {l : List Due} {d : Due} : ∃ x ∈ addD l d, keyD x d := by
 unfold addD
 split
 ·exact ⟨d, zia.2 (.inl rfl), rfl, rfl⟩
 ·rename_i hi
  rw [zgB] at hi
  simp only [Classical.not_forall, Bool.not_eq_false] at hi
  obtain ⟨x, hx, hp⟩ := hi
  exact ⟨x, hx, zfY.1 hp⟩
theorem zdD {l : List Due} {d x : Due} (hx : x ∈ l) : x ∈ addD l d := by
 unfold addD
 split
 ·exact zia.2 (.inr hx)
 ·exact hx
theorem zdE {l : List Due} {d x : Due} (hx : x ∈ addD l d) : x = d ∨ x ∈ l := by
 unfold addD at hx
 split at hx
 ·exact zia.1 hx
 ·exact .inr hx
theorem znV {l : List Due} {d : Due} : (addD l d).length ≤ l.length + 1 ∧ l.length ≤ (addD l d).length := by
 unfold addD
 split
 ·rw [zkc]; omega
 ·omega
theorem RowD.nil : RowD [] := ⟨List.Pairwise.nil, List.Pairwise.nil⟩
theorem RowD.sub {l m : List Due} (h : RowD l) (hs : m.Sublist l) : RowD m := ⟨h.up.sublist hs, h.once.sublist hs⟩
theorem zcn {l : List Due} {kind id : Int} : (zbn l kind id).Sublist l := by
 unfold zbn
 split
 ·exact List.Sublist.refl _
 ·exact List.eraseIdx_sublist _ _
theorem zhy {l : List Due} {kind id : Int} (h : RowD l) : ∀ x ∈ zbn l kind id, ¬ (x.kind = kind ∧ x.id = id) := by
 unfold zbn
 split
 ·rename_i hi
  rw [zgB] at hi
  intro x hx hk
  have := hi x hx
  rw [zfY.2 hk] at this
  cases this
 ·rename_i hi
  obtain ⟨k, hk⟩ : ∃ k : Nat, za4 (hasD kind id) l = k := ⟨(za4 (hasD kind id) l).toNat, by omega⟩
  obtain ⟨y, hy, hpy⟩ := zgC hk
  rw [zfY] at hpy
  rw [hk, Int.toNat_natCast]
  intro x hx hkx
  obtain ⟨i, hxi, hge⟩ : ∃ i, l[i]? = some x ∧ i ≠ k := by
   obtain ⟨i, hi2⟩ := List.getElem?_of_mem hx
   rw [List.getElem?_eraseIdx] at hi2
   split at hi2
   ·exact ⟨i, hi2, by omega⟩
   ·exact ⟨i + 1, hi2, by omega⟩
  obtain ⟨hi1, rfl⟩ := List.getElem?_eq_some_iff.1 hxi
  obtain ⟨hk1, rfl⟩ := List.getElem?_eq_some_iff.1 hy
  rcases Nat.lt_or_gt_of_ne hge with hlt | hlt
  ·exact List.pairwise_iff_getElem.1 h.once i k hi1 hk1 hlt ⟨hkx.1.trans hpy.1.symm, hkx.2.trans hpy.2.symm⟩
  ·exact List.pairwise_iff_getElem.1 h.once k i hk1 hi1 hlt ⟨hpy.1.trans hkx.1.symm, hpy.2.trans hkx.2.symm⟩
theorem zkV {l : List Due} {tick : Int} {x : Due} (h : x ∈ l.take (zb9 l tick)) : x.tick ≤ tick := by
 have := zcj (p := fun d : Due => decide (d.tick ≤ tick)) (l := l) x h
 simpa using this
def I64 (n : Int) : Prop := -9223372036854775808 ≤ n ∧ n ≤ 9223372036854775807
def Due.ok (d : Due) : Prop := I64 d.tick ∧ I64 d.kind ∧ I64 d.id
/-! ### lists -/
theorem zbY {α : Type} {l : List α} {i : Nat} {x y : α} (h : y ∈ l.set i x) : y = x ∨ y ∈ l := (List.mem_or_eq_of_mem_set h).symm
theorem zbH {id : Int} {l : List AskR} {a : AskR} (h : getA id l = some a) : a ∈ l ∧ a.id = id := by
 unfold getA at h
 split at h
 ·rename_i hb
  obtain ⟨x, hx, hi, _⟩ := zdz hb
  rw [hx] at h
  cases h
  exact ⟨List.mem_of_getElem? hx, hi⟩
 ·cases h
theorem zib {id : Int} {l : List zaG} {q : zaG} (h : getQ id l = some q) : q ∈ l ∧ q.id = id := by
 unfold getQ at h
 split at h
 ·rename_i hb
  obtain ⟨x, hx, hi, _⟩ := zdx hb
  rw [hx] at h
  cases h
  exact ⟨List.mem_of_getElem? hx, hi⟩
 ·cases h
def zhb (x y : AskR) : Prop := y.id = x.id ∧ y.client = x.client ∧ y.bond = x.bond ∧ y.side = x.side ∧ y.qty = x.qty ∧ y.dealers = x.dealers ∧ y.ends = x.ends
theorem zgD {id : Int} {l : List AskR} {x z y : AskR} (hx : getA id l = some x) (hs : zhb x z) (h : y ∈ setA id z l) : ∃ u ∈ l, zhb u y := by
 rcases zbY h with rfl | h
 ·exact ⟨x, (zbH hx).1, hs⟩
 ·exact ⟨y, h, rfl, rfl, rfl, rfl, rfl, rfl, rfl⟩
theorem zco {l : List AskR} {y : AskR} (h : y ∈ l) : ∃ u ∈ l, zhb u y := ⟨y, h, rfl, rfl, rfl, rfl, rfl, rfl, rfl⟩
theorem zkW {id quote until_ : Int} {l : List AskR} {y : AskR} (h : y ∈ zdX id quote until_ l) : ∃ u ∈ l, zhb u y := by
 unfold zdX at h
 split at h
 ·exact zco h
 ·rename_i x hx
  split at h
  ·exact zgD hx (by exact ⟨rfl, rfl, rfl, rfl, rfl, rfl, rfl⟩) h
  ·exact zco h
theorem zkX {id : Int} {l : List AskR} {y : AskR} (h : y ∈ zey id l) : ∃ u ∈ l, zhb u y := by
 unfold zey at h
 split at h
 ·exact zco h
 ·rename_i x hx
  split at h
  ·exact zgD hx (by exact ⟨rfl, rfl, rfl, rfl, rfl, rfl, rfl⟩) h
  ·exact zco h
theorem zmn (state : Int) (x : AskR) : zhb x (endX state x) := by
 unfold endX
 split <;> exact ⟨rfl, rfl, rfl, rfl, rfl, rfl, rfl⟩
theorem zgE {id state : Int} {l : List AskR} {y : AskR} (h : y ∈ endA id state l) : ∃ u ∈ l, zhb u y := by
 unfold endA at h
 split at h
 ·exact zco h
 ·rename_i x hx
  split at h
  ·exact zgD hx (zmn _ _) h
  ·exact zco h
def zjH (x y : zaG) : Prop := y.id = x.id ∧ y.ask = x.ask ∧ y.dealer = x.dealer ∧ y.price = x.price ∧ y.expires = x.expires
theorem ziQ {l : List zaG} {y : zaG} (h : y ∈ l) : ∃ u ∈ l, zjH u y := ⟨y, h, rfl, rfl, rfl, rfl, rfl⟩
theorem zhz {id : Int} {l : List zaG} {y : zaG} (h : y ∈ zcm id l) : ∃ u ∈ l, zjH u y := by
 unfold zcm at h
 split at h
 ·rename_i x hx
  rcases zbY h with rfl | h
  ·exact ⟨x, (zib hx).1, rfl, rfl, rfl, rfl, rfl⟩
  ·exact ziQ h
 ·exact ziQ h
theorem zgF (id : Int) (l : List zaG) : (zcm id l).length = l.length := by
 unfold zcm
 split
 ·simp
 ·rfl
theorem zke {id : Int} {l : List zaG} (h : upQ l) : upQ (zcm id l) := by
 unfold zcm
 split
 ·rename_i x hx
  unfold getQ at hx
  split at hx
  ·rename_i hb
   unfold upQ at h ⊢
   rw [List.pairwise_iff_getElem] at h ⊢
   intro i j hi hj hij
   simp only [List.length_set] at hi hj
   have := h i j hi hj hij
   have hid : ∀ k (hk : k < l.length), ((l.set (bsN (cQ id) l) { x with live := false })[k]'(by simpa using hk)).id = l[k].id := by
    intro k hk
    rw [List.getElem_set]
    split
    ·rename_i he
     subst he
     rw [List.getElem?_eq_getElem hk] at hx
     cases hx
     rfl
    ·rfl
   rw [hid i hi, hid j hj]
   exact this
  ·cases hx
 ·exact h
theorem zkY {id dealer : Int} {l : List zaG} {y : zaG} (h : y ∈ zex id dealer l) : ∃ u ∈ l, zjH u y := by
 unfold zex at h
 split at h
 ·exact zhz h
 ·exact ziQ h
theorem zmo (id dealer : Int) (l : List zaG) : (zex id dealer l).length = l.length := by
 unfold zex
 split
 ·exact zgF _ _
 ·rfl
theorem znW {id dealer : Int} {l : List zaG} (h : upQ l) : upQ (zex id dealer l) := by
 unfold zex
 split
 ·exact zke h
 ·exact h
theorem zmp {q : zaG} {l : List zaG} {y : zaG} (h : y ∈ putQ q l) : y = q ∨ ∃ u ∈ l, zjH u y := by
 unfold putQ at h
 split at h
 ·exact .inr (ziQ h)
 ·have h2 : y ∈ l.map (offQ q) ∨ y = q := by
   rcases List.mem_append.1 h with h | h
   ·rcases List.mem_append.1 h with h | h
    ·exact .inl (List.mem_of_mem_take h)
    ·exact .inr (List.mem_singleton.1 h)
   ·exact .inl (List.mem_of_mem_drop h)
  rcases h2 with h2 | h2
  ·obtain ⟨u, hu, rfl⟩ := List.mem_map.1 h2
   refine .inr ⟨u, hu, ?_⟩
   unfold offQ zjH
   split <;> exact ⟨rfl, rfl, rfl, rfl, rfl⟩
  ·exact .inl h2
theorem zmq {a : AskR} {l : List AskR} {y : AskR} (h : y ∈ addA a l) : y = a ∨ y ∈ l := by
 unfold addA at h
 split at h
 ·rcases List.mem_append.1 h with h | h
  ·rcases List.mem_append.1 h with h | h
   ·exact .inr (List.mem_of_mem_take h)
   ·exact .inl (List.mem_singleton.1 h)
  ·exact .inr (List.mem_of_mem_drop h)
 ·exact .inr h
/-! ### books -/
theorem znX {o y : zaA} {l : List zaA} (h : y ∈ addO o l) : y = o ∨ y ∈ l := by
 unfold addO at h
 split at h
 ·rcases List.mem_append.1 h with h | h
  ·exact .inr h
  ·exact .inl (List.mem_singleton.1 h)
 ·exact .inr h
theorem zmr {how : Int} {o y : zaA} {l : List zaA} (hB : zbh l) (h : y ∈ (doV how o l).bk) : (∃ x ∈ l, y.id = x.id ∧ y.seq = x.seq ∧ y.owner = x.owner) ∨ (y.id = o.id ∧ y.seq = o.seq ∧ y.owner = o.owner) := by
 by_cases h0 : zbP how o l = 0
 ·obtain ⟨hw, _⟩ := zjE hB h0
  unfold doV at h
  rw [if_pos h0] at h
  dsimp only at h
  unfold zdW at h
  split at h
  ·rcases znX h with rfl | h
   ·exact .inr ⟨rfl, rfl, rfl⟩
   ·obtain ⟨x, hx, a, b, _, _, c⟩ := hw.sub y h
    exact .inl ⟨x, hx, a, b, c⟩
  ·obtain ⟨x, hx, a, b, _, _, c⟩ := hw.sub y h
   exact .inl ⟨x, hx, a, b, c⟩
 ·rw [zjF h0] at h
  exact .inl ⟨y, h, rfl, rfl, rfl⟩
theorem zjI : ∀ {l : List zbW}, (∀ f ∈ l, 1 ≤ f.qty) → ∀ f ∈ l, f.qty ≤ sumQ l ∧ 0 ≤ sumQ l
 | [], _, f, hf => by cases hf
 | x :: l, h, f, hf => by
   have e : sumQ (x :: l) = x.qty + sumQ l := by simp [sumQ]
   have h0 : 0 ≤ sumQ l := by
    cases l with
    | nil => simp [sumQ]
    | cons y l => exact (zjI (fun f hf => h f (mcm _ hf)) y mcs).2
   have hx := h x mcs
   rcases List.mem_cons.1 hf with rfl | hf
   ·omega
   ·have := (zjI (fun f hf => h f (mcm _ hf)) f hf).1
    omega
theorem zms {how : Int} {o : zaA} {l : List zaA} (hB : zbh l) : ∀ f ∈ (doV how o l).fills, 1 ≤ f.qty ∧ f.qty ≤ 1000000 := by
 by_cases h0 : zbP how o l = 0
 ·obtain ⟨hw, e1, e2, _⟩ := zjE hB h0
  have hol := zeb (zeq h0)
  rw [e1]
  generalize runX o l (zbF how o l) = s at *
  obtain ⟨xs, hsub, hlen, hf⟩ := hw.mks
  have hq : ∀ f ∈ s.fills, 1 ≤ f.qty := by
   intro f hfm
   obtain ⟨i, hi⟩ := List.getElem?_of_mem hfm
   have hil := (List.getElem?_eq_some_iff.1 hi).1
   exact (hf i f (xs[i]'(by omega)) hi (List.getElem?_eq_getElem _)).1.qty
  have hl0 : 0 ≤ s.left := by
   rw [hw.left]
   have : min o.left (sumL (zcR o (zbF how o l))) ≤ o.left := Int.min_le_left _ _
   omega
  intro f hfm
  have := (zjI hq f hfm).1
  rw [hw.sum] at this
  exact ⟨hq f hfm, by omega⟩
 ·rw [zjF h0]
  intro f hf; cases hf
def zhc (s : Dk) (a : AskR) : Prop := (1 ≤ a.id ∧ a.id ≤ s.ask) ∧ (0 ≤ a.bond ∧ a.bond < s.bonds.length) ∧ isB a.side = true ∧ (1 ≤ a.qty ∧ a.qty ≤ 1000000) ∧ (0 ≤ a.client ∧ a.client < s.parties.length) ∧ (0 ≤ a.dealers ∧ a.dealers ≤ 18446744073709551615) ∧ (1 ≤ a.ends ∧ a.ends ≤ s.now + 1000)
def zcV (s : Dk) (q : zaG) : Prop := (1 ≤ q.id ∧ q.id ≤ s.quote) ∧ (0 ≤ q.dealer ∧ q.dealer < s.parties.length) ∧ (1 ≤ q.price ∧ q.price ≤ 1000000) ∧ (1 ≤ q.expires ∧ q.expires ≤ s.now + 1000)
structure DOK (N : Nat) (s : Dk) : Prop where
 rules : isR s.bonds s.parties s.look s.beat = true
 nbk : s.books.length = s.bonds.length
 bks : ∀ l ∈ s.books, zbh l
 bid : ∀ l ∈ s.books, ∀ o ∈ l, o.id ≤ s.order ∧ o.seq ≤ s.seq
 order : 0 ≤ s.order ∧ s.order ≤ N
 seq : 0 ≤ s.seq ∧ s.seq ≤ N
 now : 0 ≤ s.now ∧ s.now ≤ N
 quote : 0 ≤ s.quote ∧ s.quote ≤ N
 ask : 0 ≤ s.ask ∧ s.ask ≤ N
 nus : s.used.length = s.parties.length
 us : ∀ u ∈ s.used, 0 ≤ u ∧ u ≤ 9223372036854775807
 upq : upQ s.quotes
 nq : s.quotes.length ≤ N
 qs : ∀ q ∈ s.quotes, zcV s q
 upa : upA s.asks
 na : s.asks.length ≤ N
 as_ : ∀ a ∈ s.asks, zhc s a
 row : RowD s.due
 nd : s.due.length ≤ N
 ncash : s.cash.length = s.parties.length
 cash : ∀ n ∈ s.cash, inW n
 npos : s.pos.length = s.parties.length
 pos : ∀ r ∈ s.pos, r.length = s.bonds.length ∧ ∀ n ∈ r, inW n
 nt : s.trades.length ≤ 64 * N
 head : 0 ≤ s.head ∧ s.head ≤ 18446744073709551615
theorem zhc.mono {s t : Dk} {a : AskR} (h : zhc s a) (h1 : s.ask ≤ t.ask) (h2 : t.bonds.length = s.bonds.length) (h3 : t.parties.length = s.parties.length) (h4 : s.now ≤ t.now) : zhc t a := by
 obtain ⟨⟨a1, a2⟩, ⟨b1, b2⟩, c, d, ⟨e1, e2⟩, f, ⟨g1, g2⟩⟩ := h
 exact ⟨⟨a1, by omega⟩, ⟨b1, by omega⟩, c, d, ⟨e1, by omega⟩, f, ⟨g1, by omega⟩⟩
theorem zhc.same {s : Dk} {x y : AskR} (h : zhc s x) (hs : zhb x y) : zhc s y := by
 obtain ⟨a, b, c, d, e, f, g⟩ := hs
 unfold zhc at *
 rw [a, b, c, d, e, f, g]; exact h
theorem zcV.mono {s t : Dk} {q : zaG} (h : zcV s q) (h1 : s.quote ≤ t.quote) (h3 : t.parties.length = s.parties.length) (h4 : s.now ≤ t.now) : zcV t q := by
 obtain ⟨⟨a1, a2⟩, ⟨b1, b2⟩, c, ⟨d1, d2⟩⟩ := h
 exact ⟨⟨a1, by omega⟩, ⟨b1, by omega⟩, c, ⟨d1, by omega⟩⟩
theorem zcV.same {s : Dk} {x y : zaG} (h : zcV s x) (hs : zjH x y) : zcV s y := by
 obtain ⟨a, b, c, d, e⟩ := hs
 unfold zcV at *
 rw [a, c, d, e]; exact h
theorem DOK.up {N : Nat} {s : Dk} (h : DOK N s) : DOK (N + 1) s := by
 obtain ⟨h1, h2, h3, h4, h5, h6, h7, h8, h9, h10, h11, h12, h13, h14, h15, h16, h17, h18, h19, h20, h21, h22, h23, h24, h25⟩ := h
 exact ⟨h1, h2, h3, h4, by omega, by omega, by omega, by omega, by omega, h10, h11, h12, by omega, h14, h15, by omega, h17, h18, by omega, h20, h21, h22, h23, by omega, h25⟩
theorem DOK.ge {N M : Nat} {s : Dk} (h : DOK N s) (hM : N ≤ M) : DOK M s := by
 obtain ⟨h1, h2, h3, h4, h5, h6, h7, h8, h9, h10, h11, h12, h13, h14, h15, h16, h17, h18, h19, h20, h21, h22, h23, h24, h25⟩ := h
 exact ⟨h1, h2, h3, h4, by omega, by omega, by omega, by omega, by omega, h10, h11, h12, by omega, h14, h15, by omega, h17, h18, by omega, h20, h21, h22, h23, by omega, h25⟩
/-! ### parts -/
theorem DOK.turn {N : Nat} {s : Dk} (h : DOK N s) (qs : List zaG) (as' : List AskR) (ds : List Due) (hq : upQ qs) (hq1 : qs.length ≤ N) (hq2 : ∀ y ∈ qs, ∃ u ∈ s.quotes, zjH u y)
 (ha : upA as') (ha1 : as'.length ≤ N) (ha2 : ∀ y ∈ as', ∃ u ∈ s.asks, zhb u y) (hd : RowD ds) (hd1 : ds.length ≤ N) : DOK N { s with quotes := qs, asks := as', due := ds } :=
 ⟨h.rules, h.nbk, h.bks, h.bid, h.order, h.seq, h.now, h.quote, h.ask, h.nus, h.us, hq, hq1, fun y hy => by
   obtain ⟨u, hu, hs⟩ := hq2 y hy
   exact ((h.qs u hu).mono (t := { s with quotes := qs, asks := as', due := ds }) (Int.le_refl _) rfl (Int.le_refl _)).same hs, ha, ha1, fun y hy => by
   obtain ⟨u, hu, hs⟩ := ha2 y hy
   exact ((h.as_ u hu).mono (t := { s with quotes := qs, asks := as', due := ds }) (Int.le_refl _) rfl rfl (Int.le_refl _)).same hs, hd, hd1, h.ncash, h.cash, h.npos, h.pos, h.nt, h.head⟩
theorem zbJ {l : List Due} {kind id : Int} (h : RowD l) : RowD (zbn l kind id) := h.sub zcn
theorem zcD (l : List Due) (kind id : Int) : (zbn l kind id).length ≤ l.length := zcn.length_le
theorem zdF : ∀ (qs : List zaG) {l : List Due}, RowD l → RowD (qs.foldl (fun l q => zbn l 3 q.id) l)
 | [], l, h => h
 | q :: qs, l, h => by rw [List.foldl_cons]; exact zdF qs (zbJ h)
theorem zgG : ∀ (qs : List zaG) (l : List Due), (qs.foldl (fun l q => zbn l 3 q.id) l).length ≤ l.length
 | [], l => Nat.le_refl _
 | q :: qs, l => by
   rw [List.foldl_cons]
   exact Nat.le_trans (zgG qs _) (zcD _ _ _)
theorem DOK.clear {N : Nat} {s : Dk} (h : DOK N s) (id : Int) : DOK N (zd9 s id) :=
 h.turn _ s.asks _ (h.upq.filter _) (Nat.le_trans (List.length_filter_le _ _) h.nq) (fun y hy => ziQ (List.mem_filter.1 hy).1) h.upa h.na (fun y hy => zco hy)
  (zbJ (zbJ (zdF _ h.row))) (Nat.le_trans (zcD _ _ _) (Nat.le_trans (zcD _ _ _) (Nat.le_trans (zgG _ _) h.nd)))
theorem DOK.asks {N : Nat} {s : Dk} (h : DOK N s) {as' : List AskR} (ha : upA as' ∧ as'.length = s.asks.length) (ha2 : ∀ y ∈ as', ∃ u ∈ s.asks, zhb u y) : DOK N { s with asks := as' } :=
 h.turn s.quotes as' s.due h.upq h.nq (fun y hy => ziQ hy) ha.1 (by rw [ha.2]; exact h.na) ha2 h.row h.nd
theorem DOK.dies {N : Nat} {s : Dk} (h : DOK N s) (a : AskR) : DOK N (zfC s a) := (h.asks (zfE h.upa) (fun y hy => zgE hy)).clear a.id
theorem DOK.kill {N : Nat} {s : Dk} (h : DOK N s) (id : Int) {ds : List Due} (hd : RowD ds) (hd1 : ds.length ≤ N) : DOK N { s with quotes := zcm id s.quotes, due := ds } :=
 h.turn _ s.asks _ (zke h.upq) (by rw [zgF]; exact h.nq) (fun y hy => zhz hy) h.upa h.na (fun y hy => zco hy) hd hd1
theorem DOK.lookEnds {N : Nat} {rf : Bool} {s : Dk} (h : DOK N s) (a : AskR) : DOK N (zbe rf s a).1 := by
 have h1 : DOK N { s with quotes := zcm a.hit s.quotes, due := if rf then zbn (zbn s.due 3 a.hit) 2 a.id else s.due } := by
  refine h.kill a.hit ?_ ?_
  ·split
   ·exact zbJ (zbJ h.row)
   ·exact h.row
  ·split
   ·exact Nat.le_trans (zcD _ _ _) (Nat.le_trans (zcD _ _ _) h.nd)
   ·exact h.nd
 unfold zbe
 dsimp only
 split
 ·exact h1.dies a
 ·exact h1.asks (zkd h1.upa) (fun y hy => zkX hy)
theorem DOK.dueOne {N : Nat} {rf : Bool} {s : Dk × List OutR} (h : DOK N s.1) (x : Due) : DOK N (dueD rf s x).1 := by
 unfold dueD
 split
 ·exact h.kill x.id h.row h.nd
 ·split
  ·exact h
  ·split
   ·exact h.lookEnds _
   ·split
    ·exact h.dies _
    ·exact h
theorem DOK.dueAll {N : Nat} {rf : Bool} : ∀ (xs : List Due) {s : Dk × List OutR}, DOK N s.1 → DOK N (xs.foldl (dueD rf) s).1
 | [], s, h => h
 | x :: xs, s, h => by rw [List.foldl_cons]; exact DOK.dueAll xs (h.dueOne x)
theorem DOK.tick {N : Nat} {rf : Bool} {s : Dk} (h : DOK N s) : DOK (N + 1) (zcB rf s).1 := by
 unfold zcB
 refine DOK.dueAll _ ?_
 have h' := h.up
 have hn := h.now
 exact ⟨h'.rules, h'.nbk, h'.bks, h'.bid, h'.order, h'.seq, ⟨by show 0 ≤ s.now + 1; omega, by show s.now + 1 ≤ ((N + 1 : Nat) : Int); omega⟩, h'.quote, h'.ask, h'.nus, h'.us, h'.upq, h'.nq,
  fun q hq => (h'.qs q hq).mono (Int.le_refl _) rfl (by show s.now ≤ s.now + 1; omega), h'.upa, h'.na, fun a ha => (h'.as_ a ha).mono (Int.le_refl _) rfl rfl (by show s.now ≤ s.now + 1; omega),
  h'.row.sub (List.drop_sublist _ _), Nat.le_trans (List.drop_sublist _ _).length_le h'.nd, h'.ncash, h'.cash, h'.npos, h'.pos, h'.nt, h'.head⟩
theorem DOK.books {N : Nat} {s : Dk} (h : DOK N s) {bs : List (List zaA)} (h1 : bs.length = s.books.length) (h2 : ∀ l ∈ bs, zbh l) (h3 : ∀ l ∈ bs, ∀ o ∈ l, o.id ≤ s.order ∧ o.seq ≤ s.seq) : DOK N { s with books := bs } :=
 ⟨h.rules, h1.trans h.nbk, h2, h3, h.order, h.seq, h.now, h.quote, h.ask, h.nus, h.us, h.upq, h.nq, h.qs, h.upa, h.na, h.as_, h.row, h.nd, h.ncash, h.cash, h.npos, h.pos, h.nt, h.head⟩
theorem zgH : ∀ (os l : List zaA), (∀ y ∈ os.foldl (fun l o => zbu o.id l) l, y ∈ l) ∧ (zbh l → zbh (os.foldl (fun l o => zbu o.id l) l))
 | [], l => ⟨fun y h => h, fun h => h⟩
 | o :: os, l => by
   obtain ⟨h1, h2⟩ := zgH os (zbu o.id l)
   rw [List.foldl_cons]
   exact ⟨fun y hy => zcC (h1 y hy), fun h => h2 (h.drop _)⟩
theorem zec {who : Int} {l : List zaA} : (∀ y ∈ zgt who l, y ∈ l) ∧ (zbh l → zbh (zgt who l)) := by
 unfold zgt
 obtain ⟨a1, a2⟩ := zgH (zdY who 1 l) l
 obtain ⟨b1, b2⟩ := zgH (zdY who 2 l) ((zdY who 1 l).foldl (fun l o => zbu o.id l) l)
 exact ⟨fun y hy => a1 y (b1 y hy), fun h => b2 (a2 h)⟩
theorem DOK.goneOne {N : Nat} {rf : Bool} {s : Dk} (h : DOK N s) (q : zaG) : DOK N (zdc rf s q) := by
 unfold zdc
 split
 ·exact h
 ·exact h.kill q.id (zbJ h.row) (Nat.le_trans (zcD _ _ _) h.nd)
theorem DOK.goneAll {N : Nat} {rf : Bool} : ∀ (qs : List zaG) {s : Dk}, DOK N s → DOK N (qs.foldl (zdc rf) s)
 | [], s, h => h
 | q :: qs, s, h => by rw [List.foldl_cons]; exact DOK.goneAll qs (h.goneOne q)
theorem DOK.gone {N : Nat} {rf : Bool} {s : Dk} (h : DOK N s) (who : Int) : DOK N (zdC rf s who).1 := by
 unfold zdC
 refine DOK.goneAll _ (h.books (by simp) (fun l hl => ?_) (fun l hl o ho => ?_))
 ·obtain ⟨m, hm, rfl⟩ := List.mem_map.1 hl
  exact zec.2 (h.bks m hm)
 ·obtain ⟨m, hm, rfl⟩ := List.mem_map.1 hl
  exact h.bid m hm o (zec.1 o ho)
/-! ### trades -/
theorem znY (p : Ps) (t : zbc) : (putP p t).cash.length = p.cash.length ∧ (putP p t).pos.length = p.pos.length := by
 unfold putP setRow
 split <;> simp
theorem zmt {α : Type} {l : List α} {i : Int} {x : α} (h : at0 l i = some x) : x ∈ l := by
 unfold at0 at h
 split at h
 ·cases h
 ·exact List.mem_of_getElem? h
theorem ziR {l : List (List Int)} {who bond n : Int} {b : Nat} (h : ∀ r ∈ l, r.length = b ∧ ∀ n ∈ r, inW n) (hw : 0 ≤ who ∧ who < l.length) (hn : inW n) : ∀ r ∈ setRow l who bond n, r.length = b ∧ ∀ n ∈ r, inW n := by
 intro r hr
 unfold setRow at hr
 rcases zbY hr with rfl | hr
 ·have hx : at0 l who = some (l[who.toNat]'(by omega)) := by
   unfold at0
   rw [if_neg (by omega)]
   exact List.getElem?_eq_getElem _
  obtain ⟨h1, h2⟩ := h _ (zmt hx)
  rw [hx]
  refine ⟨by simpa using h1, fun m hm => ?_⟩
  rcases zbY hm with rfl | hm
  ·exact hn
  ·exact h2 m hm
 ·exact h r hr
theorem zo8 {p : Ps} {t : zbc} {b : Nat} (hl : p.pos.length = p.cash.length) (hc : ∀ n ∈ p.cash, inW n) (hp : ∀ r ∈ p.pos, r.length = b ∧ ∀ n ∈ r, inW n) : (∀ n ∈ (putP p t).cash, inW n) ∧ ∀ r ∈ (putP p t).pos, r.length = b ∧ ∀ n ∈ r, inW n := by
 unfold putP
 split
 ·rename_i h0
  unfold putE at h0
  split at h0
  ·cases h0
  ·rename_i h1
   split at h0
   ·rename_i h2
    simp only [Bool.and_eq_true] at h2
    obtain ⟨⟨⟨⟨a1, a2⟩, a3⟩, a4⟩, a5⟩ := h2
    have hb : ∀ who, zdr p who t.bond = true → 0 ≤ who ∧ who < p.cash.length := fun who h => by
     unfold zdr at h
     simp only [Bool.and_eq_true, decide_eq_true_eq] at h
     exact ⟨h.1, h.2.1⟩
    have hb1 := hb t.buyer (by cases h : zdr p t.buyer t.bond with | true => rfl | false => exact absurd (.inl h) h1)
    have hb2 := hb t.seller (by cases h : zdr p t.seller t.bond with | true => rfl | false => exact absurd (.inr (.inl h)) h1)
    refine ⟨fun n hn => ?_, ?_⟩
    ·rcases zbY hn with rfl | hn
     ·exact zeJ a5
     ·rcases zbY hn with rfl | hn
      ·exact zeJ a4
      ·exact hc n hn
    ·refine ziR (ziR hp (by omega) (zeJ a2)) ?_ (zeJ a3)
     unfold setRow
     simp only [List.length_set]
     omega
   ·cases h0
 ·exact ⟨hc, hp⟩
theorem zic {a b : Nat} (ha : a < 2 ^ 64) (hb : b < 2 ^ 64) : a ^^^ b < 2 ^ 64 := Nat.xor_lt_two_pow ha hb
theorem zjJ : ∀ (bs : List Nat) {x : Nat}, x < 2 ^ 64 → bs.foldl mixN x < 2 ^ 64
 | [], x, h => h
 | b :: bs, x, h => by
   rw [List.foldl_cons]
   exact zjJ bs (Nat.mod_lt _ (by decide))
theorem ziS {last : Nat} {bs : List Nat} (h : last < 2 ^ 64) : zc8 last bs < 2 ^ 64 := by
 unfold zc8
 have h1 : bs.foldl mixN (last ^^^ 1469598103934665603) < 2 ^ 64 := zjJ bs (zic h (by decide))
 exact zic h1 (Nat.lt_of_le_of_lt (Nat.div_le_self _ _) h1)
structure DOKt (N M : Nat) (s : Dk) : Prop where
 ok : DOK N { s with trades := [] }
 nt : s.trades.length ≤ M
theorem DOK.noT {N : Nat} {s : Dk} (h : DOK N s) : DOKt N (64 * N) s :=
 ⟨⟨h.rules, h.nbk, h.bks, h.bid, h.order, h.seq, h.now, h.quote, h.ask, h.nus, h.us, h.upq, h.nq, h.qs, h.upa, h.na, h.as_, h.row, h.nd, h.ncash, h.cash, h.npos, h.pos, Nat.zero_le _, h.head⟩, h.nt⟩
theorem DOKt.all {N M : Nat} {s : Dk} (h : DOKt N M s) (hM : M ≤ 64 * N) : DOK N s :=
 let h' := h.ok
 ⟨h'.rules, h'.nbk, h'.bks, h'.bid, h'.order, h'.seq, h'.now, h'.quote, h'.ask, h'.nus, h'.us, h'.upq, h'.nq, h'.qs, h'.upa, h'.na, h'.as_, h'.row, h'.nd, h'.ncash, h'.cash, h'.npos, h'.pos, Nat.le_trans h.nt hM, h'.head⟩
theorem DOKt.trade {N M : Nat} {s : Dk} (h : DOKt N M s) (t : zbc) : DOKt N (M + 1) (zdi s t) := by
 have h' := h.ok
 have hl := znY ⟨s.cash, s.pos⟩ t
 have ho := zo8 (p := ⟨s.cash, s.pos⟩) (t := t) (b := s.bonds.length) (h'.npos.trans h'.ncash.symm) h'.cash h'.pos
 have hh : s.head.toNat < 2 ^ 64 := by have h9 : 0 ≤ s.head ∧ s.head ≤ 18446744073709551615 := h'.head; show s.head.toNat < 18446744073709551616; omega
 have hc := ziS (bs := zcf t) hh
 refine ⟨⟨h'.rules, h'.nbk, h'.bks, h'.bid, h'.order, h'.seq, h'.now, h'.quote, h'.ask, h'.nus, h'.us, h'.upq, h'.nq, h'.qs, h'.upa, h'.na, h'.as_, h'.row, h'.nd, hl.1.trans h'.ncash, ho.1, hl.2.trans h'.npos, ho.2, Nat.zero_le _, ?_⟩, ?_⟩
 ·show 0 ≤ ((zc8 s.head.toNat (zcf t) : Nat) : Int) ∧ ((zc8 s.head.toNat (zcf t) : Nat) : Int) ≤ 18446744073709551615
  omega
 ·show (s.trades ++ [t]).length ≤ M + 1
  have := h.nt
  simp; omega
theorem DOKt.fills {N : Nat} {who : Int} {o : zaA} {n : Nat} : ∀ (fs : List zbW) {M : Nat} {s : FSt}, DOKt N M s.d → DOKt N (M + fs.length) (fs.foldl (zb5 who o n) s).d
 | [], M, s, h => h
 | f :: fs, M, s, h => by
   rw [List.foldl_cons]
   have := DOKt.fills (who := who) (o := o) (n := n) fs (s := zb5 who o n s f) (h.trade (zb1 s.d o.side who f.mparty n f.price f.qty 0))
   rw [List.length_cons, show M + (fs.length + 1) = M + 1 + fs.length by omega]
   exact this
theorem zo9 {q : zaG} {l : List zaG} (h : upQ l) : upQ (putQ q l) := by
 unfold putQ
 split
 ·exact h
 ·rename_i hb
  have hbad : badQ q l = false := by simpa using hb
  simp only [badQ, Bool.or_eq_false_iff] at hbad
  have hB := hbad.1.1.1.1.1
  have hne := zgA h hB
  have hup2 : upQ (l.map (offQ q)) := by
   unfold upQ; rw [List.pairwise_map]
   exact h.imp (fun {a b} hab => by rw [zdS, zdS]; exact hab)
  have hbs : bsN (cQ q.id) l = ((l.map (offQ q)).takeWhile fun x => decide (x.id < q.id)).length := by
   unfold bsN
   rw [List.takeWhile_map, List.length_map]
   congr 2
   funext x
   simp only [Function.comp, zdS]
   exact decide_eq_decide.2 ziG
  refine zlz (f := zaG.id) hup2 (fun x hx => ?_) hbs
  obtain ⟨y, hy, rfl⟩ := List.mem_map.1 hx
  rw [zdS]; exact hne y hy
theorem zcp {bs : List za3} {ps : List zaV} {look beat : Int} (h : isR bs ps look beat = true) : (1 ≤ bs.length ∧ bs.length ≤ 4) ∧ (1 ≤ ps.length ∧ ps.length ≤ 8) ∧ (1 ≤ look ∧ look ≤ 1000) ∧ (∀ b ∈ bs, zcT b = true) ∧ (∀ p ∈ ps, zd5 p (zc7 ps ps.length) = true) := by
 unfold isR at h
 simp only [Bool.and_eq_true, List.all_eq_true] at h
 obtain ⟨⟨h1, h2⟩, ⟨⟨h3, h4⟩, h5⟩, h6⟩ := h
 have h1 := zck h1
 have h2 := zck h2
 have h5 := zck h5
 exact ⟨by omega, by omega, h5, h3, h4⟩
theorem zdm {s : Dk} {n : Int} (hl : s.books.length = s.bonds.length) (h : zcz s n = true) : (0 ≤ n ∧ n < s.books.length) ∧ s.bonds[n.toNat]? = some (zbz s n) ∧ zbz s n ∈ s.bonds := by
 unfold zcz at h
 simp only [Bool.and_eq_true, decide_eq_true_eq] at h
 have hlt : n.toNat < s.bonds.length := by omega
 have e : s.bonds[n.toNat]? = some (zbz s n) := by
  unfold zbz at0
  rw [if_neg (by omega), List.getElem?_eq_getElem hlt]; rfl
 exact ⟨h, e, List.mem_of_getElem? e⟩
theorem zpI {b : za3} {q : Int} (hb : zcT b = true) (h : qtyE b q = 0) : 1 ≤ q ∧ q ≤ 1000000 := by
 have hp := zeo hb
 have := hp.min
 have := hp.max
 unfold qtyE at h
 split at h
 ·omega
 ·rename_i h1
  have h2 := zck (show inB q b.min b.max = true by simpa using h1)
  omega
theorem znZ {b : za3} {p : Int} (hb : zcT b = true) (h : zd6 b p = 0) : 1 ≤ p ∧ p ≤ 1000000 := by
 have hp := zeo hb
 have := hp.low
 have := hp.high
 unfold zd6 at h
 split at h
 ·omega
 ·rename_i h1
  have h2 := zck (show inB p b.low b.high = true by simpa using h1)
  omega
theorem zhA {who : Int} {o : zaA} {n : Nat} (m : Int) : ∀ (fs : List zbW) (d : Dk) (outs : List OutR) (rest : Int), (fs.foldl (zb5 who o n) ⟨{ d with order := m }, outs, rest⟩).d = { (fs.foldl (zb5 who o n) ⟨d, outs, rest⟩).d with order := m }
 | [], d, outs, rest => rfl
 | f :: fs, d, outs, rest => by
   rw [List.foldl_cons, List.foldl_cons]
   exact zhA m fs (zdi d (zb1 d o.side who f.mparty n f.price f.qty 0)) _ _
theorem DOK.meets {N : Nat} {s : Dk} (h : DOK N s) {who : Int} {n : Nat} {o : zaA} {how m : Int} (hn : n < s.books.length) (ho : o.id ≤ m) (hm : s.order ≤ m ∧ m ≤ ((N + 1 : Nat) : Int)) : DOK (N + 1) { (zbT s who n o how).d with order := m } := by
 have h' := h.up
 have ho0 := h.order
 have hs0 := h.seq
 have hbk : zbA s n ∈ s.books := by
  unfold zbA
  rw [List.getD_eq_getElem?_getD, List.getElem?_eq_getElem hn]
  exact List.getElem_mem hn
 have hB := h.bks _ hbk
 unfold zbT
 dsimp only
 split
 ·exact ⟨h'.rules, h'.nbk, h'.bks, fun l hl o ho => ⟨Int.le_trans (h'.bid l hl o ho).1 hm.1, (h'.bid l hl o ho).2⟩, ⟨by show 0 ≤ m; omega, hm.2⟩, h'.seq, h'.now, h'.quote, h'.ask, h'.nus, h'.us, h'.upq, h'.nq, h'.qs, h'.upa, h'.na, h'.as_, h'.row, h'.nd, h'.ncash, h'.cash, h'.npos, h'.pos, h'.nt, h'.head⟩
 ·show DOK (N + 1) { (List.foldl _ _ _ : FSt).d with order := m }
  rw [← zhA]
  have hlen := (zgy (how := how) (o := { o with seq := s.seq + 1 }) hB).1
  have hin : ∀ l ∈ s.books.set n (doV how { o with seq := s.seq + 1 } (zbA s n)).bk, zbh l ∧ ∀ x ∈ l, x.id ≤ m ∧ x.seq ≤ s.seq + 1 := by
   intro l hl
   rcases zbY hl with rfl | hl
   ·refine ⟨zqU hB, fun x hx => ?_⟩
    rcases zmr hB hx with ⟨y, hy, e1, e2, _⟩ | ⟨e1, e2, _⟩
    ·have := h.bid _ hbk y hy
     omega
    ·have e1' : x.id = o.id := e1
     have e2' : x.seq = s.seq + 1 := e2
     omega
   ·refine ⟨h.bks l hl, fun x hx => ?_⟩
    have := h.bid l hl x hx
    omega
  have hN : ((N + 1 : Nat) : Int) = (N : Int) + 1 := by omega
  refine (DOKt.fills _ (N := N + 1) (M := 64 * N) (s := ⟨{ s with seq := s.seq + 1, books := s.books.set n (doV how { o with seq := s.seq + 1 } (zbA s n)).bk, order := m }, _, _⟩) ?_).all (by omega)
  exact ⟨⟨h'.rules, by show (s.books.set n _).length = _; rw [List.length_set]; exact h'.nbk, fun l hl => (hin l hl).1, fun l hl => (hin l hl).2, ⟨by show 0 ≤ m; omega, hm.2⟩, ⟨by show 0 ≤ s.seq + 1; omega, by show s.seq + 1 ≤ _; omega⟩, h'.now, h'.quote, h'.ask, h'.nus, h'.us, h'.upq, h'.nq, h'.qs, h'.upa, h'.na, h'.as_, h'.row, h'.nd, h'.ncash, h'.cash, h'.npos, h'.pos, Nat.zero_le _, h'.head⟩, h.nt⟩
theorem zgI {who : Int} {o : zaA} {n : Nat} : ∀ (fs : List zbW) (s : FSt), (fs.foldl (zb5 who o n) s).d.order = s.d.order
 | [], s => rfl
 | f :: fs, s => by rw [List.foldl_cons, zgI fs]; rfl
theorem zeQ {s : Dk} {who : Int} {n : Nat} {o : zaA} {how : Int} : (zbT s who n o how).d.order = s.order := by
 unfold zbT
 dsimp only
 split
 ·rfl
 ·show (List.foldl _ _ _ : FSt).d.order = s.order
  rw [zgI]
theorem DOK.meets0 {N : Nat} {s : Dk} (h : DOK N s) {who : Int} {n : Nat} {o : zaA} {how : Int} (hn : n < s.books.length) (ho : o.id ≤ s.order) : DOK (N + 1) (zbT s who n o how).d := by
 have h2 := h.order
 have h1 := h.meets (who := who) (how := how) hn ho ⟨Int.le_refl _, by omega⟩
 have e : (zbT s who n o how).d.order = s.order := zeQ
 generalize (zbT s who n o how).d = x at h1 e
 rw [← e] at h1
 exact h1
theorem DOK.halt {N : Nat} {s : Dk} (h : DOK N s) (n is : Int) : DOK N (zeN s n is).d := by
 unfold zeN
 split
 ·exact h
 ·split
  ·exact h
  ·rename_i h1 h2
   obtain ⟨_, _, hm⟩ := zdm h.nbk (n := n) (by simpa using h1)
   have hr : isR (s.bonds.set n.toNat { zbz s n with halted := is == 1 }) s.parties s.look s.beat = true := by
    have h0 := h.rules
    unfold isR at h0 ⊢
    simp only [Bool.and_eq_true, List.all_eq_true, List.length_set] at h0 ⊢
    refine ⟨h0.1, ⟨⟨fun b hb => ?_, h0.2.1.1.2⟩, h0.2.1.2⟩, h0.2.2⟩
    rcases zbY hb with rfl | hb
    ·have hq := h0.2.1.1.1 (zbz s n) hm
     exact hq
    ·exact h0.2.1.1.1 _ hb
   have hl : (s.bonds.set n.toNat { zbz s n with halted := is == 1 }).length = s.bonds.length := by simp
   exact ⟨hr, h.nbk.trans hl.symm, h.bks, h.bid, h.order, h.seq, h.now, h.quote, h.ask, h.nus, h.us, h.upq, h.nq, h.qs, h.upa, h.na, fun a ha => (h.as_ a ha).mono (Int.le_refl _) hl rfl (Int.le_refl _), h.row, h.nd, h.ncash, h.cash, h.npos, fun r hr => ⟨(h.pos r hr).1.trans hl.symm, (h.pos r hr).2⟩, h.nt, h.head⟩
theorem zkf {bs : List (List zaA)} {id : Int} (h : ¬ zc2 bs id < 0) : ∃ (i : Nat) (l : List zaA), zc2 bs id = i ∧ bs[i]? = some l ∧ (getO id l).isSome = true := by
 unfold zc2 at *
 rcases zeL (p := fun l => (getO id l).isSome) bs with ⟨hi, _⟩ | ⟨i, x, hi, hx, hp, _⟩
 ·omega
 ·exact ⟨i, x, hi, hx, hp⟩
theorem zjK {id : Int} {l : List zaA} {o : zaA} (h : getO id l = some o) : o ∈ l ∧ o.id = id := by
 unfold getO at h
 have h1 := List.find?_some h
 exact ⟨List.mem_of_find?_eq_some h, by simpa [hasO] using h1⟩
theorem DOK.setBook {N : Nat} {s : Dk} (h : DOK N s) {n : Nat} {l m : List zaA} (hl : s.books[n]? = some l) (hB : zbh m) (hm : ∀ y ∈ m, ∃ x ∈ l, y.id = x.id ∧ y.seq = x.seq) : DOK N { s with books := s.books.set n m } := by
 refine h.books (by simp) (fun k hk => ?_) (fun k hk o ho => ?_)
 ·rcases zbY hk with rfl | hk
  ·exact hB
  ·exact h.bks k hk
 ·rcases zbY hk with rfl | hk
  ·obtain ⟨x, hx, e1, e2⟩ := hm o ho
   have := h.bid l (List.mem_of_getElem? hl) x hx
   omega
  ·exact h.bid k hk o ho
theorem zbh.lessAll {l : List zaA} (h : zbh l) (id left : Int) : zbh (zcd id left l) := by
 by_cases hE : zdu id left l = 0
 ·exact h.less hE
 ·rw [zj6 hE]; exact h
theorem DOK.changes {N : Nat} {s : Dk} (h : DOK N s) (who kind id price qty : Int) : DOK (N + 1) (zbE s who kind id price qty).d := by
 unfold zbE
 dsimp only
 split
 ·exact h.up
 ·rename_i hn
  obtain ⟨n, l, e1, e2, e3⟩ := zkf hn
  have hnl := (List.getElem?_eq_some_iff.1 e2).1
  have hat : zbA s n = l := by unfold zbA; rw [List.getD_eq_getElem?_getD, e2]; rfl
  rw [e1]
  simp only [Int.toNat_natCast, hat]
  have hB := h.bks l (List.mem_of_getElem? e2)
  have hdrop : ∀ k, DOK N { s with books := s.books.set n (zbu k l) } := fun k => h.setBook e2 (hB.drop _) (fun y hy => ⟨y, zcC hy, rfl, rfl⟩)
  split
  ·exact h.up
  ·rename_i o ho
   have hoi := zjK ho
   split
   ·exact h.up
   ·split
    ·split
     ·exact h.up
     ·split
      ·exact (h.setBook e2 (hB.lessAll _ _) (fun y hy => by
        obtain ⟨x, hx, a, b, _⟩ := zgx hy
        exact ⟨x, hx, a, b⟩)).up
      ·have hk := hdrop o.id
       have h1 := h.bid l (List.mem_of_getElem? e2) o hoi.1
       exact hk.meets0 (who := who) (n := n) (o := { o with price := price, left := qty }) (how := 0) (by show n < (s.books.set n _).length; rw [List.length_set]; exact hnl) h1.1
    ·exact (hdrop id).up
theorem DOK.comes {N : Nat} {s : Dk} (h : DOK N s) (who : Int) (m : MsgR) : DOK (N + 1) (zcH s who m).d := by
 unfold zcH
 dsimp only
 split
 ·exact h.up
 ·rename_i h1
  obtain ⟨hn, _, _⟩ := zdm h.nbk (n := m.f0) (by simpa using h1)
  split
  ·exact h.up
  ·split
   ·exact h.up
   ·have ho := h.order
    have hN : ((N + 1 : Nat) : Int) = (N : Int) + 1 := by omega
    split
    ·have hm := h.meets (who := who) (n := m.f0.toNat) (o := ⟨s.order + 1, 0, who, m.f1, m.f2, m.f3⟩) (how := m.f4) (m := s.order + 1) (by omega) (Int.le_refl _) ⟨by omega, by omega⟩
     show DOK (N + 1) { (zbT s who m.f0.toNat ⟨s.order + 1, 0, who, m.f1, m.f2, m.f3⟩ m.f4).d with order := (zbT s who m.f0.toNat ⟨s.order + 1, 0, who, m.f1, m.f2, m.f3⟩ m.f4).d.order + 1 }
     rw [zeQ]
     exact hm
    ·rename_i herr
     unfold zbT at herr ⊢
     dsimp only at herr ⊢
     split
     ·exact h.up
     ·rename_i h0
      rw [if_neg h0] at herr
      exact absurd rfl herr
theorem zjL {l : List Due} {d : Due} : (addD l d).length ≤ l.length + 1 := znV.1
theorem DOK.ask' {N : Nat} {s : Dk} (h : DOK N s) (who : Int) (m : MsgR) : DOK (N + 1) (askD s who m).d := by
 unfold askD
 dsimp only
 split
 ·exact h.up
 ·rename_i h1
  obtain ⟨hn, _, hbm⟩ := zdm h.nbk (n := m.f0) (by simpa using h1)
  have hbd := (zcp h.rules).2.2.2.1 _ hbm
  split
  ·exact h.up
  ·rename_i h2
   split
   ·exact h.up
   ·split
    ·exact h.up
    ·rename_i h4
     have hq := zpI hbd (Decidable.not_not.1 h4)
     split
     ·exact h.up
     ·rename_i h5
      split
      ·exact h.up
      ·rename_i h6
       split
       ·exact h.up
       ·have hr : zcK s.parties who ≠ 0 := by
         intro e
         apply h5
         unfold zgi
         rw [if_pos (by omega)]
         decide
        obtain ⟨w1, w2, _⟩ := zda hr
        have hw := zck (show inB m.f4 1 1000 = true by simpa [zeM] using h6)
        have h' := h.up
        have ha := h.ask
        have hnw := h.now
        have hN : ((N + 1 : Nat) : Int) = (N : Int) + 1 := by omega
        have hdl : 0 ≤ m.f3 % 18446744073709551616 ∧ m.f3 % 18446744073709551616 ≤ 18446744073709551615 := by omega
        have hs : isB m.f1 = true := by simpa using h2
        have hbl := h.nbk
        refine ⟨h'.rules, h'.nbk, h'.bks, h'.bid, h'.order, h'.seq, h'.now, h'.quote, ⟨by show 0 ≤ s.ask + 1; omega, by show s.ask + 1 ≤ _; omega⟩, h'.nus, h'.us, h'.upq, h'.nq, h'.qs, zo7 h.upa, Nat.le_trans znR (Nat.succ_le_succ h.na), fun a ha' => ?_, zer h.row, Nat.le_trans zjL (Nat.succ_le_succ h.nd), h'.ncash, h'.cash, h'.npos, h'.pos, h'.nt, h'.head⟩
        rcases zmq ha' with rfl | ha'
        ·exact ⟨⟨by show 1 ≤ s.ask + 1; omega, by show s.ask + 1 ≤ s.ask + 1; omega⟩, ⟨hn.1, by show m.f0 < (s.bonds.length : Int); omega⟩, hs, hq, ⟨w1, w2⟩, hdl, ⟨by show 1 ≤ s.now + m.f4; omega, by show s.now + m.f4 ≤ s.now + 1000; omega⟩⟩
        ·exact (h.as_ a ha').mono (by show s.ask ≤ s.ask + 1; omega) rfl rfl (Int.le_refl _)
theorem DOK.bondA {N : Nat} {s : Dk} (h : DOK N s) {a : AskR} (ha : a ∈ s.asks) : zcz s a.bond = true ∧ zcT (zbz s a.bond) = true := by
 obtain ⟨_, ⟨b1, b2⟩, _⟩ := h.as_ a ha
 have hl := h.nbk
 have hn : zcz s a.bond = true := by
  unfold zcz
  simp only [Bool.and_eq_true, decide_eq_true_eq]
  omega
 exact ⟨hn, (zcp h.rules).2.2.2.1 _ (zdm h.nbk hn).2.2⟩
theorem DOK.quote' {N : Nat} {rf : Bool} {s : Dk} (h : DOK N s) {who : Int} (hw : 0 ≤ who ∧ who < s.parties.length) (m : MsgR) : DOK (N + 1) (zdA rf s who m).d := by
 unfold zdA
 split
 ·exact h.up
 ·rename_i a hg
  have hbd := (h.bondA (zbH hg).1).2
  split
  ·exact h.up
  ·split
   ·exact h.up
   ·split
    ·exact h.up
    ·split
     ·exact h.up
     ·rename_i h4
      have hp := znZ hbd (Decidable.not_not.1 h4)
      split
      ·exact h.up
      ·rename_i h5
       have hwn := zck (show inB m.f2 1 1000 = true by simpa [zeM] using h5)
       dsimp only
       split
       ·exact h.up
       ·have h' := h.up
        have hq := h.quote
        have hnw := h.now
        have hN : ((N + 1 : Nat) : Int) = (N : Int) + 1 := by omega
        have hrow : ∀ d, RowD (addD (if rf = true then zbn s.due 3 (oldQ ⟨s.quote + 1, a.id, who, m.f1, s.now + m.f2, true⟩ s.quotes) else s.due) d) := fun d => by
         refine zer ?_
         split
         ·exact zbJ h.row
         ·exact h.row
        have hlen : ∀ d, (addD (if rf = true then zbn s.due 3 (oldQ ⟨s.quote + 1, a.id, who, m.f1, s.now + m.f2, true⟩ s.quotes) else s.due) d).length ≤ N + 1 := fun d => by
         refine Nat.le_trans zjL (Nat.succ_le_succ ?_)
         split
         ·exact Nat.le_trans (zcD _ _ _) h.nd
         ·exact h.nd
        refine ⟨h'.rules, h'.nbk, h'.bks, h'.bid, h'.order, h'.seq, h'.now, ⟨by show 0 ≤ s.quote + 1; omega, by show s.quote + 1 ≤ _; omega⟩, h'.ask, h'.nus, h'.us, zo9 h.upq, Nat.le_trans znP (Nat.succ_le_succ h.nq), fun q hq' => ?_, h'.upa, h'.na, h'.as_, hrow _, hlen _, h'.ncash, h'.cash, h'.npos, h'.pos, h'.nt, h'.head⟩
        rcases zmp hq' with rfl | ⟨u, hu, hs⟩
        ·exact ⟨⟨by show 1 ≤ s.quote + 1; omega, by show s.quote + 1 ≤ s.quote + 1; omega⟩, hw, hp, ⟨by show 1 ≤ s.now + m.f2; omega, by show s.now + m.f2 ≤ s.now + 1000; omega⟩⟩
        ·exact zcV.same (zcV.mono (h.qs u hu) (by show s.quote ≤ s.quote + 1; omega) rfl (Int.le_refl _)) hs
theorem DOK.pull' {N : Nat} {rf : Bool} {s : Dk} (h : DOK N s) (who id : Int) : DOK N (zdl rf s who id).d := by
 unfold zdl
 split
 ·exact h
 ·split
  ·exact h
  ·split
   ·exact h
   ·split
    ·exact h
    ·refine h.turn _ s.asks _ (znW h.upq) (by rw [zmo]; exact h.nq) (fun y hy => zkY hy) h.upa h.na (fun y hy => zco hy) ?_ ?_
     ·split
      ·exact zbJ h.row
      ·exact h.row
     ·split
      ·exact Nat.le_trans (zcD _ _ _) h.nd
      ·exact h.nd
theorem DOK.hitq {N : Nat} {s : Dk} (h : DOK N s) (a : AskR) (q : zaG) : DOK (N + 1) (hitQ s a q).d := by
 unfold hitQ
 split
 ·exact h.up
 ·split
  ·exact h.up
  ·split
   ·exact h.up
   ·split
    ·exact h.up
    ·have hl := znS (id := a.id) (quote := q.id) (until_ := s.now + s.look) h.upa
     exact h.up.turn s.quotes _ _ h.upq h.up.nq (fun y hy => ziQ hy) hl.1 (by rw [hl.2]; exact h.up.na) (fun y hy => zkW hy) (zer h.row) (Nat.le_trans zjL (Nat.succ_le_succ h.nd))
theorem DOK.hit' {N : Nat} {s : Dk} (h : DOK N s) (who id : Int) : DOK (N + 1) (hitD s who id).d := by
 unfold hitD
 split
 ·exact h.up
 ·split
  ·exact h.up
  ·split
   ·exact h.up
   ·exact h.hitq _ _
theorem DOK.best' {N : Nat} {s : Dk} (h : DOK N s) (who id : Int) : DOK (N + 1) (zha s who id).d := by
 unfold zha
 split
 ·exact h.up
 ·split
  ·exact h.up
  ·split
   ·exact h.up
   ·exact h.hitq _ _
theorem DOK.usedSet {N : Nat} {s : Dk} (h : DOK N s) {i : Nat} {n : Int} (hn : 0 ≤ n ∧ n ≤ 9223372036854775807) : DOK N { s with used := s.used.set i n } :=
 ⟨h.rules, h.nbk, h.bks, h.bid, h.order, h.seq, h.now, h.quote, h.ask, by show (s.used.set i n).length = _; rw [List.length_set]; exact h.nus, fun u hu => by
   rcases zbY hu with rfl | hu
   ·exact hn
   ·exact h.us u hu, h.upq, h.nq, h.qs, h.upa, h.na, h.as_, h.row, h.nd, h.ncash, h.cash, h.npos, h.pos, h.nt, h.head⟩
theorem zmu {l : List Int} (h : ∀ u ∈ l, 0 ≤ u ∧ u ≤ 9223372036854775807) (who : Int) : 0 ≤ zdU l who ∧ zdU l who ≤ 9223372036854775807 := by
 unfold zdU
 rcases hx : at0 l who with _ | u
 ·simp
 ·exact h u (zmt hx)
theorem zmv {ps : List zaV} {used : List Int} {who price qty : Int} (h : zc0 ps used who price qty = 0) : zcK ps who = 2 ∧ 1 ≤ price ∧ 1 ≤ qty ∧ zdU used who + price * qty ≤ 9223372036854775807 := by
 unfold zc0 at h
 split at h
 ·omega
 ·split at h
  ·omega
  ·split at h
   ·omega
   ·split at h
    ·omega
    ·omega
theorem DOK.looks' {N : Nat} {rf : Bool} {s : Dk} (h : DOK N s) (who kind id : Int) : DOK (N + 1) (zdB rf s who kind id).d := by
 unfold zdB
 split
 ·exact h.up
 ·rename_i a hg
  split
  ·exact h.up
  ·dsimp only
   split
   ·exact h.up
   ·split
    ·refine (DOK.lookEnds ?_ a).up
     exact h.turn s.quotes s.asks _ h.upq h.nq (fun y hy => ziQ hy) h.upa h.na (fun y hy => zco hy) (zbJ h.row) (Nat.le_trans (zcD _ _ _) h.nd)
    ·split
     ·exact h.up
     ·split
      ·exact h.up
      ·rename_i h5
       obtain ⟨r1, r2, r3, r4⟩ := zmv (Decidable.not_not.1 h5)
       have hu := zmu h.us (qOf s a.hit).dealer
       have hm : 0 ≤ (qOf s a.hit).price * a.qty := Int.mul_nonneg (by omega) (by omega)
       have h1 := h.usedSet (i := (qOf s a.hit).dealer.toNat) (n := zdU s.used (qOf s a.hit).dealer + (qOf s a.hit).price * a.qty) ⟨by omega, r4⟩
       have h2 := (h1.asks (zfE (id := a.id) (state := 3) h1.upa) (fun y hy => zgE hy)).clear a.id
       have h3 := h2.up
       refine (DOKt.trade (N := N + 1) (M := 64 * N) ⟨h3.noT.ok, h2.nt⟩ _).all (by omega)
theorem DOK.dropA {N : Nat} {s : Dk} (h : DOK N s) (who id : Int) : DOK N (zb2 s who id).d := by
 unfold zb2
 split
 ·exact h
 ·split
  ·exact h
  ·exact h.dies _
theorem zmw {ps : List zaV} {who : Int} (h : mayV ps who 10 = true) : 0 ≤ who ∧ who < ps.length := by
 have h2 : zcK ps who = 2 := by simpa [mayV] using h
 obtain ⟨a, b, _⟩ := zda (ps := ps) (who := who) (by rw [h2]; decide)
 exact ⟨a, b⟩
theorem DOK.does {N : Nat} {rf : Bool} {s : Dk} (h : DOK N s) (who : Int) (m : MsgR) : DOK (N + 1) (zdR rf s who m).d := by
 unfold zdR
 split
 ·exact h.up
 ·rename_i hm
  split
  ·exact h.comes who m
  ·split
   ·exact h.changes _ _ _ _ _
   ·split
    ·rename_i hk
     refine h.quote' (zmw ?_) m
     rw [hk] at hm
     cases hv : mayV s.parties who 10
     ·exact absurd (.inr (.inr hv)) hm
     ·rfl
    ·split
     ·exact (h.pull' _ _).up
     ·split
      ·exact h.hit' _ _
      ·split
       ·exact h.best' _ _
       ·split
        ·exact h.looks' _ _ _
        ·split
         ·exact (h.dropA _ _).up
         ·split
          ·exact h.ask' _ _
          ·exact (h.halt _ _).up
theorem DOK.do' {N : Nat} {rf : Bool} {s : Dk} (h : DOK N s) (who seq : Int) (m : MsgR) : DOK (N + 1) (doD rf s who seq m).1 := h.does who m
theorem DOK.new {bs : List za3} {ps : List zaV} {look beat : Int} (h : isR bs ps look beat = true) : DOK 0 (zeI bs ps look beat) := by
 refine ⟨h, by simp [zeI], fun l hl => ?_, fun l hl o ho => ?_, ⟨Int.le_refl _, Int.le_refl _⟩, ⟨Int.le_refl _, Int.le_refl _⟩, ⟨Int.le_refl _, Int.le_refl _⟩, ⟨Int.le_refl _, Int.le_refl _⟩, ⟨Int.le_refl _, Int.le_refl _⟩, by simp [zeI], fun u hu => ?_, List.Pairwise.nil, Nat.le_refl _, fun q hq => (by cases hq), List.Pairwise.nil, Nat.le_refl _, fun a ha => (by cases ha), RowD.nil, Nat.le_refl _, by simp [zeI], fun n hn => ?_, by simp [zeI], fun r hr => ?_, Nat.zero_le _, ⟨Int.le_refl _, by show (0 : Int) ≤ 18446744073709551615; omega⟩⟩
 ·rw [(List.mem_replicate.1 hl).2]; exact zbh.nil
 ·rw [(List.mem_replicate.1 hl).2] at ho; cases ho
 ·rw [(List.mem_replicate.1 hu).2]; omega
 ·rw [(List.mem_replicate.1 hn).2]; unfold inW; omega
 ·rw [(List.mem_replicate.1 hr).2]
  refine ⟨by simp [zeI], fun n hn => ?_⟩
  rw [(List.mem_replicate.1 hn).2]; unfold inW; omega
end Go.Proofs.YtakilgkpfjhfdaaGreat
namespace Go.Proofs.YtakilgkpfjhfdaaGreat
open Go Go.Sl
attribute [local irreducible] AW ES EP Ld RetQ
set_option maxRecDepth 100000
theorem zmx (W : World) (h : List zax) : zaB Tryz.prog W 38 [] h (fun v h' => ∃ p, v = .pointer (some ⟨p, 0, none⟩) ∧ h' = .blk p 106 [.slice none 0 0] :: .own none 0 0 52 6 [] :: h) := by
 refine zaB.conv (zlI W h) ?_
 rintro v h' ⟨p, rfl, rfl⟩ w hw
 exact ⟨_, (hw.own_nil 52 6).perm sel1, p, rfl, rfl⟩
def zmy (bs : List za3) (ps : List zaV) (look beat : Int) (k : Nat) : Dk := { zeI bs ps look beat with books := List.replicate k [] }
theorem zpa {bs : List za3} {ps : List zaV} {look beat : Int} (h : isR bs ps look beat = true) : (1 ≤ bs.length ∧ bs.length ≤ 4) ∧ (1 ≤ ps.length ∧ ps.length ≤ 8) ∧ (1 ≤ look ∧ look ≤ 1000) := by
 unfold isR at h
 simp only [Bool.and_eq_true] at h
 have h1 := zck h.1.1
 have h2 := zck h.1.2
 have h3 := zck h.2.1.2
 omega
set_option maxHeartbeats 2000000 in
theorem zn0 (W : World) (h : List zax) (AB : Option Addr) (cB : Nat) (bs : List za3) (AP : Option Addr) (cP : Nat) (ps : List zaV) (look beat : Int) (hrB : zaJ W h AB bs.length 7 (bs.flatMap za3.enc)) (hrP : zaJ W h AP ps.length 3 (ps.flatMap zaV.enc)) (hb : bs.length ≤ 1000000) (hp : ps.length ≤ 1000000) :
 zaB Tryz.prog W 13 [ze5 AB bs.length cB AP ps.length cP look beat] h
  (fun v h' => (isR bs ps look beat = false ∧ v = .pointer none ∧ h' = h) ∨ (isR bs ps look beat = true ∧ ∃ x bks rows, v = ptrV x.d ∧ h' = zai x (zeI bs ps look beat) bks rows h ∧ za6 (zeI bs ps look beat) bks rows)) := by
 refine zaB.dropTo ?_
 have hF := fun k (hk : ∀ c ∈ h, c ∈ k) => znm W k AB cB bs AP cP ps look beat (hrB.mono hk) (hrP.mono hk) hb hp
 have hcb := fun k (hk : ∀ c ∈ h, c ∈ k) => zkC W k AB bs.length cB (bs.flatMap za3.enc) (hrB.mono hk) (by omega)
 have hcl := fun k (hk : ∀ c ∈ h, c ∈ k) => zgg W k AP ps.length cP (ps.flatMap zaV.enc) (hrP.mono hk) (by omega)
 refine zan Tryz.func13 rfl rfl Tryz.results13 Tryz.ntmps13 rfl rfl ?_
 cases hR : isR bs ps look beat
 ·have hF0 := fun k hk => (hF k hk).mono (R' := fun v h' => v = .pointer none ∧ h' = k) (fun v h' hh => by
   rcases hh with ⟨_, a, b⟩ | ⟨a, _⟩
   ·exact ⟨a, b⟩
   ·rw [hR] at a; cases a)
  repeat' (first | apply zae | apply zaa | apply zaj | apply zad | apply zab hT; iterate 4 exact rfl | (apply zaz (hs := (hF0 _ (by (intro c hc; (repeat (first | exact hc | apply mcm )))))); (iterate 7 exact rfl); rintro _ _ ⟨rfl, rfl⟩) | (apply zal; (iterate 5 exact rfl); first | (apply zaQ hT; exact rfl; exact rfl; (repeat (first | exact mcs )); exact rfl)) | apply zaK; (iterate 5 exact rfl); intro _ | apply zak; iterate 2 exact rfl)
  all_goals (apply ret1; exact rfl; exact ⟨h, by (repeat (first | exact zar | apply zat)), .inl ⟨rfl, rfl, rfl⟩⟩)
 ·obtain ⟨⟨b1, b2⟩, ⟨p1, p2⟩, _⟩ := zpa hR
  have hF1 := fun k hk => (hF k hk).mono (R' := fun v h' => ∃ p A c U u, v = .pointer (some ⟨p, 0, none⟩) ∧ h' = zdO p A c U u ps (List.replicate ps.length 0) k) (fun v h' hh => by
   rcases hh with ⟨a, _⟩ | ⟨_, a⟩
   ·rw [hR] at a; cases a
   ·exact a)
  have hps : zgh ps.length bs.length = true := by unfold zgh; simp; omega
  have hP1 := fun k => (zoP W k ps.length bs.length).mono (R' := fun v h' => ∃ p AC cC AR cR rs, v = .pointer (some ⟨p, 0, none⟩) ∧ h' = zcE p AC cC AR cR (List.replicate ps.length 0) rs k ∧ rs.map PRow.l = List.replicate ps.length (List.replicate bs.length 0)) (fun v h' hh => by
   rcases hh with ⟨a, _⟩ | ⟨_, a⟩
   ·rw [hps] at a; cases a
   ·exact a)
  repeat' (first | apply zae | apply zaa | apply zah | apply zaf | apply zad | apply zab hT; iterate 4 exact rfl | (apply zb8 [] [33, 34, 35, 36, 37] (.step 0 <| .step 1 <| .step 5 <| .step 6 <| .step 7 <| .step 8 <| .step 9 <| .step 10 <| .step 2 <| .step 3 <| .step 4 <| .step 11 <| .step 12 <| .step 13 <| .step 14 <| .step 15 <| .nil) hmix; decide +kernel) | apply zcX | apply zeZ | apply zbN; exact rfl | (apply zb8 [] [] (.step 0 <| .step 1 <| .step 3 <| .alt (.step 2 <| .step 4 <| .step 6 <| .step 5 <| .step 7 <| .step 8 <| .step 9 <| .nil) ((.step 4 <| .step 2 <| .step 6 <| .step 5 <| .step 7 <| .step 8 <| .step 9 <| .nil))) hmix; decide +kernel) | (apply zaz (hs := (hF1 _ (by (intro c hc; (repeat (first | exact hc | apply mcm | apply mar)))))); (iterate 7 exact rfl); rintro _ _ ⟨pf, Af, cf, Uf, uf, rfl, rfl⟩) | (apply zaz (hs := (hcb _ (by (intro c hc; (repeat (first | exact hc | apply mcm | apply mar)))))); (iterate 7 exact rfl); rintro _ _ ⟨A1, c1, rfl, rfl⟩) | (apply zaz (hs := (hcl _ (by (intro c hc; (repeat (first | exact hc | apply mcm | apply mar)))))); (iterate 7 exact rfl); rintro _ _ ⟨A2, c2, rfl, rfl⟩) | apply zdg (hs := (zkD W _)); (iterate 7 exact rfl); (rintro _ _ ⟨pq, rfl, rfl⟩; refine ⟨[_], rfl, ?_⟩) | apply zdg (hs := (znn W _)); (iterate 7 exact rfl); (rintro _ _ ⟨pa, rfl, rfl⟩; refine ⟨[_], rfl, ?_⟩) | apply zdg (hs := (zno W _)); (iterate 7 exact rfl); (rintro _ _ ⟨pu, rfl, rfl⟩; refine ⟨[_], rfl, ?_⟩) | apply zdg (hs := (zlH W _)); (iterate 7 exact rfl); (rintro _ _ ⟨pb, rfl, rfl⟩; refine ⟨[_], rfl, ?_⟩) | apply zdg (hs := (hP1 _)); (iterate 7 exact rfl); (rintro _ _ ⟨pp, AC, cC, AR, cR, rows, rfl, rfl, hrows⟩; refine ⟨_ :: _ :: _ :: rows.map PRow.ck, rfl, ?_⟩) | (apply zaF hT; (iterate 6 exact rfl); (repeat (first | exact sel0 | apply selS )); (iterate 3 exact rfl); exact nle rfl) | apply zaO hT (cs := [.slice A1 bs.length c1, .slice A2 ps.length c2, .int .i64 look, .int .i64 beat, .int .i64 0, .slice none 0 0, ptrV pf, ptrV pq, ptrV pa, ptrV pu, ptrV pp, ptrV pb, .int .i64 0, .int .i64 0, .int .i64 0, .int .i64 0]); iterate 4 exact rfl | apply zaK; (iterate 5 exact rfl); intro gd | (apply zal; (iterate 5 exact rfl); first | (apply zaC hT; exact rfl; exact rfl; (repeat (first | exact mcs | apply mcm | apply mar)); exact rfl; exact rfl) | (apply zaQ hT; exact rfl; exact rfl; (repeat (first | exact mcs )); exact rfl)) | apply zag; iterate 2 exact rfl)
  all_goals try omega
  all_goals
   refine zbV (fun w hw => ⟨_, ((((hw.own_nil 48 1).own_nil 115 6).own_nil 68 10).own_nil 121 3).own_nil 103 8, ?_⟩)
   refine zbj (α := Nat × Sp × List BAd) (E := fun x => [(4, ptrV gd), (34, .int .i64 bs.length), (35, .int .i64 x.1)])
    (H := fun x => zai ⟨gd, pf, pq, pa, pu, pp, pb, ⟨A1, c1⟩, ⟨A2, c2⟩, x.2.1, ⟨Af, cf⟩, ⟨Uf, uf⟩, ⟨none, 0⟩, ⟨none, 0⟩, ⟨none, 0⟩, ⟨AC, cC⟩, ⟨AR, cR⟩, ⟨none, 0⟩⟩ (zmy bs ps look beat x.1) x.2.2 rows h) (μ := fun x => bs.length - x.1)
    (S := fun x => x.1 ≤ bs.length ∧ x.2.2.map BAd.l = List.replicate x.1 []) (0, ⟨none, 0⟩, []) ⟨Nat.zero_le _, rfl⟩ ⟨rfl, rfl, rfl, trivial⟩ ?_ ?_
   ·simp only [zai, zb0, zmy, zeI, Sp.sl, Sp.own, zdO, zcE, List.length_replicate, List.map_replicate, List.length_nil, List.flatMap_nil, List.map_nil, List.replicate_zero, List.nil_append]
    (repeat (first | exact zar | (apply zay; · (repeat (first | exact sel0 | apply selS | apply zbO))) | apply zat | apply zdN))
   ·rintro ⟨k, sp, bks⟩ ⟨hk, hbk⟩
    dsimp only at hk hbk ⊢
    have hlen : bks.length = k := by have := congrArg List.length hbk; simpa using this
    by_cases hlt : k < bs.length
    ·have hd1 : decide ((k : Int) < (bs.length : Int)) = true := by simp; omega
     simp only [zai, zb0, zmy, zeI, Sp.sl, Sp.own, List.length_replicate, List.map_replicate, List.length_nil, List.flatMap_nil, List.map_nil]
     repeat' (first | apply zae | apply zaa | apply zah | apply zaf | apply zad | apply zab hT; iterate 4 exact rfl | (apply zaN hT; (iterate 4 exact rfl); (iterate 2 (first | omega ))) | (apply zb8 [] [] (.step 0 <| .step 1 <| .step 2 <| .step 3 <| .alt (.step 4 <| .step 5 <| .step 6 <| .step 7 <| .step 8 <| .step 9 <| .step 10 <| .nil) ((.step 5 <| .step 4 <| .step 6 <| .step 7 <| .step 8 <| .step 9 <| .step 10 <| .nil))) hmix; decide +kernel) | apply zcX | apply zeZ | apply zbN; exact rfl | apply zaz (hs := (zmx W _)); (iterate 7 exact rfl); rintro _ _ ⟨pk, rfl, rfl⟩ | apply zao hT; (iterate 12 exact rfl); intro g43 | (apply zbg hT; (iterate 10 exact rfl); (repeat (first | exact sel0 | apply selS )); exact zaJ.own mem0 rfl (List.all_eq_true.1 rfl); omega; (show (_ : Nat) * 8 ≤ _; omega); intro A' c') | (apply zaF hT; (iterate 6 exact rfl); (repeat (first | exact sel0 | apply selS )); (iterate 3 exact rfl); exact nle rfl) | (apply zal; (iterate 5 exact rfl); first | (apply zaC hT; exact rfl; exact rfl; (repeat (first | exact mcs | apply mcm )); exact rfl; exact rfl) ) | (apply zam; exact rfl; all_goals (intro hb; (try dsimp only at hb); (try simp only [hb]); (first | replace hb := odt hb | replace hb := odf hb ); (try omega))))
     all_goals try omega
     all_goals
      refine zaR (k + 1, ⟨A', c'⟩, bks ++ [⟨pk, ⟨none, 0⟩, []⟩]) (by dsimp only; omega) ⟨by dsimp only; omega, by dsimp only; rw [List.map_append, hbk, List.replicate_succ']; rfl⟩ ⟨rfl, rfl, rfl, trivial⟩ ?_
      dsimp only
      rw [List.map_append, List.flatMap_append, List.append_assoc]
      simp only [List.flatMap_cons, List.flatMap_nil, BAd.ck, Sp.sl, Sp.own, List.cons_append, List.nil_append, List.append_nil, List.length_nil]
      iterate 18 (apply zay; · (repeat (first | exact sel0 | apply selS)))
      refine zlB ?_
      apply zay; · (repeat (first | exact sel0 | apply selS))
      refine zlB ?_
      apply zay; · (repeat (first | exact sel0 | apply selS))
      (repeat (first | exact zar | apply zat))
    ·obtain rfl : k = bs.length := by omega
     have hd1 : decide ((bs.length : Int) < (bs.length : Int)) = false := by simp
     repeat' (first | apply zae | apply zaa | apply zaj | apply zas | apply zad | apply zab hT; iterate 4 exact rfl | (apply zam; exact rfl; all_goals (intro hb; (try dsimp only at hb); (try simp only [hb]); (first | replace hb := odt hb | replace hb := odf hb ); (try omega))))
     all_goals first
      | (exfalso; omega)
      | (apply ret1; exact rfl; exact ⟨_, zar, .inr ⟨by trivial, ⟨gd, pf, pq, pa, pu, pp, pb, ⟨A1, c1⟩, ⟨A2, c2⟩, sp, ⟨Af, cf⟩, ⟨Uf, uf⟩, ⟨none, 0⟩, ⟨none, 0⟩, ⟨none, 0⟩, ⟨AC, cC⟩, ⟨AR, cR⟩, ⟨none, 0⟩⟩, bks, rows, rfl, rfl, hbk, hrows⟩⟩)
      | skip
end Go.Proofs.YtakilgkpfjhfdaaGreat
namespace Go.Proofs.YtakilgkpfjhfdaaGreat
open Go Go.Sl
attribute [local irreducible] AW ES Ld RetQ
set_option maxRecDepth 100000
theorem zjM (W : World) (h : List zax) (A : Option Addr) (n c : Nat) (cs : List Value) (hr : zaJ W h A n 8 cs) (hb : n * 64 ≤ 140737488355328) :
 zaB Tryz.prog W 84 [.slice A n c] h (fun v h' => ∃ A' c', v = .slice A' n c' ∧ h' = .own A' n c' 103 8 cs :: h) := by
 refine zaB.drop ?_
 refine zan Tryz.func84 rfl rfl Tryz.results84 Tryz.ntmps84 rfl rfl ?_
 refine zaU hr rfl (fun hA => ?_)
 cases A with
 | none =>
   have hn : n = 0 := by
    rcases Nat.eq_zero_or_pos n with h | h
    ·exact h
    ·have := hA h; simp at this
   subst hn
   have hcs : cs = [] := List.eq_nil_of_length_eq_zero (by simpa using hr.len)
   subst hcs
   refine zbV (fun w hw => ⟨_, hw.own_nil 103 8, ?_⟩)
   repeat' (first | apply zae | apply zaa | apply zaj | apply zad | apply zab hT; iterate 4 exact rfl | apply zak; iterate 2 exact rfl)
   apply ret1; exact rfl
   exact ⟨[], _, List.Perm.refl _, none, 0, rfl, rfl⟩
 | some ad =>
   repeat' (first | apply zae | apply zaa | apply zaj | apply zah | apply zad | apply zab hT; iterate 4 exact rfl | apply zao hT; (iterate 12 exact rfl); intro g1 | apply zbg hT; (iterate 10 exact rfl); exact sel0; exact hr.cons; omega; (show (0 + n) * 64 ≤ _; omega); intro A' c' | apply zag; iterate 2 exact rfl)
   apply ret1; exact rfl
   refine ⟨[], _, List.Perm.refl _, A', c', by rw [Nat.zero_add], ?_⟩
   show zax.own A' (0 + n) c' 103 8 ([] ++ cs) :: h = _
   simp
end Go.Proofs.YtakilgkpfjhfdaaGreat
namespace Go.Proofs.YtakilgkpfjhfdaaGreat
open Go Go.Sl
attribute [local irreducible] AW ES EP Ld RetQ
set_option maxRecDepth 100000
theorem zgJ (W : World) (x : DAd) (s : Dk) (n : Int) : zaL Tryz.prog W 41 [ptrV x.d, .int .i64 n] [.blk x.d 95 (zb0 x s)] (.bool (decide (n ≥ 0) && decide (n < s.books.length))) := by
 refine zaL.ofD (fun h' hs => ?_)
 have m0 := hs _ mem0
 refine zan Tryz.func41 rfl rfl Tryz.results41 Tryz.ntmps41 rfl rfl ?_
 repeat' (first | apply zae | apply zaa | apply zaj | apply zad | apply zab hT; iterate 4 exact rfl | apply zaq; iterate 3 exact rfl | (apply zal; (iterate 5 exact rfl); first | (apply zaC hT; exact rfl; exact rfl; (repeat (first | exact m0 )); exact rfl; exact rfl) ) | (apply zav; exact rfl; all_goals (intro hb; (fail_if_success (change true = true at hb)); (fail_if_success (change false = false at hb)); (try dsimp only at hb); (try simp only [hb]); (first | replace hb := odt hb | replace hb := odf hb ); (try omega))))
 all_goals first
  | (apply ret1; exact rfl; exact ⟨by (first | simp_all; done), by (repeat (first | exact zar))⟩)
  | skip
theorem zmz (W : World) (x : DAd) (s : Dk) (bks : List BAd) (i : Nat) (b : BAd) (hl : bks.length = s.books.length) (hi : bks[i]? = some b) (h4 : bks.length ≤ 1000000) :
 zaL Tryz.prog W 19 [ptrV x.d, .int .i64 i] [.blk x.d 95 (zb0 x s), x.books.own s.books.length 48 1 (bks.map BAd.ptr)] (ptrV b.p) := by
 refine zaL.ofD (fun h' hs => ?_)
 have m0 := hs _ mem0
 have m1 := hs _ mem1
 have hil := (List.getElem?_eq_some_iff.1 hi).1
 have hB := (zgJ W x s i).cast (u := .bool true) (by simp; omega)
 have hrd : zaJ W h' x.books.A s.books.length 1 (bks.map BAd.ptr) := zaJ.own m1 (by simp [hl]) (fun v hv => by
  obtain ⟨y, _, rfl⟩ := List.mem_map.1 hv
  rfl)
 have hix : (bks.map BAd.ptr)[(i : Int).toNat * 1]? = some (ptrV b.p) := by simp [hi]; rfl
 refine zan Tryz.func19 rfl rfl Tryz.results19 Tryz.ntmps19 rfl rfl ?_
 refine zaU hrd rfl (fun hA => ?_)
 have hA' := hA (by omega)
 repeat' (first | apply zae | apply zaa | apply zaj | apply zah | apply zad | apply zab hT; iterate 4 exact rfl | (apply zac (hs := (hB.mono (by intro c hc; rw [List.mem_singleton.1 hc]; exact m0))); iterate 7 exact rfl) | apply zaS hT; (iterate 8 exact rfl); (iterate 2 omega); exact hA' | apply zal; (iterate 5 exact rfl); exact zbl hT rfl rfl hrd rfl hix | (apply zal; (iterate 5 exact rfl); first | (apply zaC hT; exact rfl; exact rfl; (repeat (first | exact m0 )); exact rfl; exact rfl) ) | apply zag; iterate 2 exact rfl)
 all_goals first
  | (apply ret1; exact rfl; exact ⟨rfl, by (repeat (first | exact zar))⟩)
  | skip
theorem zmA (W : World) (h : List zax) (p : Nat) (A : Option Addr) (c : Nat) (l : List zbc) (hv : Value) (m0 : zax.blk p 138 [.slice A l.length c, hv] ∈ h) (m1 : zax.own A l.length c 103 8 (l.flatMap zbc.enc) ∈ h) (hb : l.length ≤ 1000000) :
 zaB Tryz.prog W 54 [ptrV p] h (fun v h' => ∃ A' c', v = .slice A' l.length c' ∧ h' = .own A' l.length c' 103 8 (l.flatMap zbc.enc) :: h) := by
 have hrd : zaJ W h A l.length 8 (l.flatMap zbc.enc) := zaJ.own m1 (zdf zbc.enc_len _) (fun v hv => by
  obtain ⟨y, _, hy⟩ := List.mem_flatMap.1 hv
  exact zbc.enc_one y v hy)
 refine zaB.dropTo ?_
 refine zan Tryz.func54 rfl rfl Tryz.results54 Tryz.ntmps54 rfl rfl ?_
 repeat' (first | apply zae | apply zaa | apply zaj | apply zah | apply zad | apply zab hT; iterate 4 exact rfl | (apply zaz (hs := (zjM W _ A l.length c (l.flatMap zbc.enc) hrd (by omega))); (iterate 7 exact rfl); rintro _ _ ⟨A1, c1, rfl, rfl⟩) | (apply zal; (iterate 5 exact rfl); first | (apply zaC hT; exact rfl; exact rfl; (repeat (first | exact m0 )); exact rfl; exact rfl) ) | apply zag; iterate 2 exact rfl)
 all_goals first
  | (apply ret1; exact rfl; exact ⟨_, zar, A1, c1, rfl, rfl⟩)
  | skip
theorem zjN (W : World) (h : List zax) (x : DAd) (s : Dk) (m0 : zax.blk x.d 95 (zb0 x s) ∈ h) (m1 : zax.blk x.b 138 [x.trades.sl s.trades.length, .int .u64 s.head] ∈ h) (m2 : x.trades.own s.trades.length 103 8 (s.trades.flatMap zbc.enc) ∈ h) (hb : s.trades.length ≤ 1000000) :
 zaB Tryz.prog W 24 [ptrV x.d] h (fun v h' => ∃ A' c', v = .slice A' s.trades.length c' ∧ h' = .own A' s.trades.length c' 103 8 (s.trades.flatMap zbc.enc) :: h) := by
 refine zaB.dropTo ?_
 have hL := zmA W h x.b x.trades.A x.trades.c s.trades (.int .u64 s.head) m1 m2 hb
 refine zan Tryz.func24 rfl rfl Tryz.results24 Tryz.ntmps24 rfl rfl ?_
 repeat' (first | apply zae | apply zaa | apply zaj | apply zah | apply zad | apply zab hT; iterate 4 exact rfl | apply zaz (hs := hL); (iterate 7 exact rfl); rintro _ _ ⟨A1, c1, rfl, rfl⟩ | (apply zal; (iterate 5 exact rfl); first | (apply zaC hT; exact rfl; exact rfl; (repeat (first | exact m0 )); exact rfl; exact rfl) ) | apply zag; iterate 2 exact rfl)
 all_goals first
  | (apply ret1; exact rfl; exact ⟨_, zar, A1, c1, rfl, rfl⟩)
  | skip
end Go.Proofs.YtakilgkpfjhfdaaGreat
namespace Go.Sl
open Go Go.RowKit
variable {P : Program} {W : World} {h h' F : List zax}
theorem zaJ.enc {α : Type} {enc : α → List Value} {k : Nat} (hk : ∀ x, (enc x).length = k) (h1 : ∀ x, ∀ v ∈ enc x, v.oneCell' = true) {A : Option Addr} {n c : Nat} {t : TypeId} {l : List α} (hm : zax.own A n c t k (l.flatMap enc) ∈ h) (hn : l.length = n) : zaJ W h A n k (l.flatMap enc) :=
 zaJ.own hm (by rw [zdf hk, hn]) (fun v hv => by
  obtain ⟨y, _, hy⟩ := List.mem_flatMap.1 hv
  exact h1 y v hy)
theorem zaJ.ints {A : Option Addr} {n c : Nat} {t : TypeId} {kd : IntKind} {l : List Int} (hm : zax.own A n c t 1 (l.map (Value.int kd)) ∈ h) (hn : l.length = n) : zaJ W h A n 1 (l.map (Value.int kd)) :=
 zaJ.own hm (by simp [hn]) (fun v hv => by
  obtain ⟨y, _, rfl⟩ := List.mem_map.1 hv
  rfl)
theorem zdZ {x : zax} (hx : x ∈ h) : ∀ c ∈ [x], c ∈ h := fun c hc => by
 rw [List.mem_singleton.1 hc]; exact hx
theorem zbx {x y : zax} (hx : x ∈ h) (hy : y ∈ h) : ∀ c ∈ [x, y], c ∈ h := fun c hc => by
 rcases List.mem_cons.1 hc with rfl | hc
 ·exact hx
 ·exact zdZ hy c hc
theorem zd0 {x y z : zax} (hx : x ∈ h) (hy : y ∈ h) (hz : z ∈ h) : ∀ c ∈ [x, y, z], c ∈ h := fun c hc => by
 rcases List.mem_cons.1 hc with rfl | hc
 ·exact hx
 ·exact zbx hy hz c hc
theorem zhd {x y z u : zax} (hx : x ∈ h) (hy : y ∈ h) (hz : z ∈ h) (hu : u ∈ h) : ∀ c ∈ [x, y, z, u], c ∈ h := fun c hc => by
 rcases List.mem_cons.1 hc with rfl | hc
 ·exact hx
 ·exact zd0 hy hz hu c hc
theorem zed {kd : IntKind} {l : List Int} {i : Nat} {n : Int} (h : l[i]? = some n) : (l.map (Value.int kd))[i * 1]? = some (.int kd n) := by simp [h]
theorem zn1 {cs : List Value} {i : Nat} {v : Value} (h : i < cs.length) : lay cs (i * 1) [v] = cs.set i v := by
 rw [Nat.mul_one]; exact zlE (by omega)
end Go.Sl
namespace Go.Sl
open Go Go.RowKit
variable {P : Program} {W : World} {T : Tab} {N : Nat} {env : Env} {h h' : List zax} {kf : KF} {ops : Array Oper} {K : Env → List zax → Prop} {o : Oper} {rest : List Oper}
theorem zaP {L R : List zax} : (L ++ R).Perm (L ++ R) := List.Perm.refl _
theorem zaT {x : zax} {F L G : List zax} (hp : F.Perm (L ++ G)) : (x :: F).Perm (L ++ x :: G) := (hp.cons x).trans List.perm_middle.symm
theorem zkg {X F L G : List zax} (hp : F.Perm (L ++ G)) : (X ++ F).Perm (L ++ (X ++ G)) := (hp.append_left X).trans (by
 rw [← List.append_assoc, ← List.append_assoc]
 exact (List.perm_append_comm).append_right G)
theorem za0 {h L G F : List zax} (h1 : h.Perm (L ++ G)) (h2 : G.Perm F) : h.Perm (L ++ F) := h1.trans (h2.append_left L)
theorem zaZ (hT : zbB P T) {b : Bool} {d : Tmp} {ty pos af g} {t e : TypeId} {ti te : TI} {x ix : Operand} {ad : Addr} {gb off len : Nat} {i : Int} {k : IntKind} (hg : zbC ops env g = some b) (hb : b = true) (hd : Nat.blt d N = true)
 (ht : T.lookup t = some ti) (htd : ti.desc = .array len e) (hte : T.lookup e = some te) (hx : za8 env x = some (.pointer (some ad))) (hi : za8 env ix = some (.int k i)) (had : ad = ⟨gb, off, none⟩) (h0 : 0 ≤ i) (h1 : i < len)
 (hK : ES P W N kf ops rest ((d, .pointer (some ⟨gb, off + i.toNat * te.size, none⟩)) :: env) h K) : ES P W N kf ops (⟨some d, .indexAddr t x ix, ty, pos, af, g⟩ :: rest) env h K :=
 zb6 hg hb hd (fun a ha w => by
  have g1 := hT _ _ ht
  have g2 := hT _ _ hte
  have hu := g1.1
  rw [htd] at hu
  subst had
  simp [execOp, ha.eval hx, ha.eval hi, Instr.indexAt, Instr.sureAddr, asIntOf, run_underlying hu, h0, h1, g2.sz, zf8]) hK
theorem zjO (hT : zbB P T) {b : Bool} {d : Tmp} {ty pos af g} {t e : TypeId} {ti te : TI} {x : Operand} {ad : Addr} {len : Nat} (hg : zbC ops env g = some b) (hb : b = true) (hd : Nat.blt d N = true)
 (ht : T.lookup t = some ti) (htd : ti.desc = .array len e) (hte : T.lookup e = some te) (hx : za8 env x = some (.pointer (some ad))) (h1 : 0 < len)
 (hK : ES P W N kf ops rest ((d, .slice (some (ad.add 0)) len len) :: env) h K) : ES P W N kf ops (⟨some d, .slice t x none none none, ty, pos, af, g⟩ :: rest) env h K :=
 zb6 hg hb hd (fun a ha w => by
  have g1 := hT _ _ ht
  have g2 := hT _ _ hte
  have hu := g1.1
  rw [htd] at hu
  have hne : ¬ len = 0 := by omega
  simp [execOp, ha.eval hx, Instr.sliceAt, Instr.sliceBounds, Instr.sureAddr, run_underlying hu, g2.sz, hne]) hK
theorem zbQ (hT : zbB P T) {b : Bool} {d : Tmp} {ty pos af g} {t e : TypeId} {ti te : TI} {x lo : Operand} {ad : Addr} {len : Nat} {k : IntKind} {i : Int} (hg : zbC ops env g = some b) (hb : b = true) (hd : Nat.blt d N = true)
 (ht : T.lookup t = some ti) (htd : ti.desc = .array len e) (hte : T.lookup e = some te) (hx : za8 env x = some (.pointer (some ad))) (hi : za8 env lo = some (.int k i)) (h0 : 0 ≤ i) (h1 : i ≤ len)
 (hK : ES P W N kf ops rest ((d, .slice (some (if len = i.toNat then ad else ad.add (i.toNat * te.size))) (len - i.toNat) (len - i.toNat)) :: env) h K) : ES P W N kf ops (⟨some d, .slice t x (some lo) none none, ty, pos, af, g⟩ :: rest) env h K :=
 zb6 hg hb hd (fun a ha w => by
  have g1 := hT _ _ ht
  have g2 := hT _ _ hte
  have hu := g1.1
  rw [htd] at hu
  have h2 : ¬ i < 0 := by omega
  have h3 : ¬ (len : Int) < i := by omega
  simp [execOp, ha.eval hx, ha.eval hi, Instr.sliceAt, Instr.sliceBounds, Instr.sliceBound, Instr.sureAddr, asIntOf, run_underlying hu, g2.sz, h0, h1]) hK
end Go.Sl
namespace Go.Proofs.YtakilgkpfjhfdaaGreat
open Go Go.Sl
attribute [local irreducible] AW ES EP Ld RetQ
set_option maxRecDepth 100000
theorem zmB (W : World) (k : Int) : zaL Tryz.prog W 58 [.int .i64 k] [] (.bool (zhq k)) := by
 refine zaL.ofD (fun h' hs => ?_)
 refine zan Tryz.func58 rfl rfl Tryz.results58 Tryz.ntmps58 rfl rfl ?_
 repeat' (first | apply zae | apply zaa | apply zaj | apply zad | apply zab hT; iterate 4 exact rfl | apply zaq; iterate 3 exact rfl | (apply zav; exact rfl; all_goals (intro hb; (fail_if_success (change true = true at hb)); (fail_if_success (change false = false at hb)); (try dsimp only at hb); (try simp only [hb]); (first | replace hb := odt hb | replace hb := odf hb ); (try omega))))
 all_goals first
  | (apply ret1; exact rfl; exact ⟨by (first | simp_all [zhq, inB]; done | simp [zhq, inB]; omega), by (repeat (first | exact zar))⟩)
  | skip
theorem ziT {k : Int} (h : ¬ (1 ≤ k ∧ k ≤ 28)) : zg8 k = -1 := by
 unfold zg8
 split
 ·rfl
 ·have : k = 0 := by omega
  subst this; rfl
theorem zn2 (W : World) (k : Int) : zaL Tryz.prog W 94 [.int .i64 k] [] (.int .i64 (zg8 k)) := by
 refine zaL.ofD (fun h' hs => ?_)
 by_cases hk : 1 ≤ k ∧ k ≤ 28
 ·obtain ⟨n, rfl⟩ := Int.eq_ofNat_of_zero_le (show 0 ≤ k by omega)
  have hn : n = 1 ∨ n = 2 ∨ n = 3 ∨ n = 4 ∨ n = 5 ∨ n = 6 ∨ n = 7 ∨ n = 8 ∨ n = 9 ∨ n = 10 ∨ n = 11 ∨ n = 12 ∨ n = 13 ∨ n = 14 ∨ n = 15 ∨ n = 16 ∨ n = 17 ∨ n = 18 ∨ n = 19 ∨ n = 20 ∨ n = 21 ∨ n = 22 ∨ n = 23 ∨ n = 24 ∨ n = 25 ∨ n = 26 ∨ n = 27 ∨ n = 28 := by omega
  refine zan Tryz.func94 rfl rfl Tryz.results94 Tryz.ntmps94 rfl rfl ?_
  rcases hn with rfl | rfl | rfl | rfl | rfl | rfl | rfl | rfl | rfl | rfl | rfl | rfl | rfl | rfl | rfl | rfl | rfl | rfl | rfl | rfl | rfl | rfl | rfl | rfl | rfl | rfl | rfl | rfl
  all_goals
   repeat' (first | apply zae | apply zaa | apply zaj | apply zah | apply zaf | apply zad | apply zab hT; iterate 4 exact rfl | apply zak; iterate 2 exact rfl | apply zag; iterate 2 exact rfl)
   all_goals first
    | (apply ret1; exact rfl; exact ⟨rfl, by (repeat (first | exact zar))⟩)
    | skip
 ·rw [ziT hk]
  refine zan Tryz.func94 rfl rfl Tryz.results94 Tryz.ntmps94 rfl rfl ?_
  repeat' (first | apply zae | apply zaa | apply zaj | apply zah | apply zaf | apply zad | apply zab hT; iterate 4 exact rfl | (apply zam; exact rfl; all_goals (intro hb; (try dsimp only at hb); (try simp only [hb]); (first | replace hb := odt hb | replace hb := odf hb ); (try omega))))
  all_goals first
   | (exfalso; omega)
   | (apply ret1; exact rfl; exact ⟨rfl, by (repeat (first | exact zar))⟩)
   | skip
theorem zn3 (k : Int) : -1 ≤ zg8 k ∧ zg8 k ≤ 6 := by
 by_cases hk : 1 ≤ k ∧ k ≤ 28
 ·obtain ⟨n, rfl⟩ := Int.eq_ofNat_of_zero_le (show 0 ≤ k by omega)
  have hn : n < 29 := by omega
  have key : ∀ n : Fin 29, -1 ≤ zg8 ((n.val : Nat) : Int) ∧ zg8 ((n.val : Nat) : Int) ≤ 6 := by decide
  exact key ⟨n, hn⟩
 ·rw [ziT hk]; omega
set_option maxHeartbeats 2000000 in
theorem zpJ (W : World) (m : MsgR) : zaL Tryz.prog W 59 [.agg m.enc.toArray] [] (.bool (zlJ m)) := by
 refine zaL.ofD (fun h' hs => ?_)
 have hM := zn2 W m.kind
 have hle := zn3 m.kind
 unfold zlJ
 generalize zg8 m.kind = n at *
 refine zan Tryz.func59 rfl rfl Tryz.results59 Tryz.ntmps59 rfl rfl ?_
 by_cases h0 : n < 0
 ·rw [decide_eq_false (show ¬ n ≥ 0 by omega)]
  repeat' (first | apply zae | apply zaa | apply zaj | apply zad | apply zab hT; iterate 4 exact rfl | apply zaK; (iterate 5 exact rfl); intro g1 | (apply zac (hs := (hM.mono (by simp))); iterate 7 exact rfl) | (apply zal; (iterate 5 exact rfl); first | (apply zaC hT; exact rfl; exact rfl; (repeat (first | exact mcs )); exact rfl; exact rfl) ) | (apply zam; exact rfl; all_goals (intro hb; (try dsimp only at hb); (try simp only [hb]); (first | replace hb := odt hb | replace hb := odf hb ); (try omega))))
  all_goals first
   | (exfalso; omega)
   | (apply ret1; exact rfl; exact ⟨rfl, by (repeat (first | exact zar | apply zat))⟩)
   | skip
 ·rw [decide_eq_true (show n ≥ 0 by omega), Bool.true_and]
  obtain ⟨q, rfl⟩ := Int.eq_ofNat_of_zero_le (show 0 ≤ n by omega)
  have hq : q = 0 ∨ q = 1 ∨ q = 2 ∨ q = 3 ∨ q = 4 ∨ q = 5 ∨ q = 6 := by omega
  rcases hq with rfl | rfl | rfl | rfl | rfl | rfl | rfl
  ·repeat' (first | apply zae | apply zaa | apply zah | apply zaf | apply zad | apply zab hT; iterate 4 exact rfl | apply zaK; (iterate 5 exact rfl); intro g1 | (apply zac (hs := (hM.mono (by simp))); iterate 7 exact rfl) | apply zbQ hT; (iterate 8 exact rfl); (iterate 2 omega) | (apply zal; (iterate 5 exact rfl); first | (apply zaC hT; exact rfl; exact rfl; (repeat (first | exact mcs )); exact rfl; exact rfl) ) | apply zag; iterate 2 exact rfl)
   all_goals try omega
   have hrd : zaJ W (.blk g1 25 m.enc :: h') (some ⟨g1, 1, none⟩) 6 1 (((MsgR.nums m).drop 0).map (Value.int .i64)) := zaJ.blk mem0 rfl rfl (fun v hv => by
    obtain ⟨y, _, rfl⟩ := List.mem_map.1 hv
    rfl)
   have hll : ((MsgR.nums m).drop 0).length = 6 := rfl
   show AW _ _ _ _ _ _ _
   rw [show (Int.toNat ((0 : Nat) : Int)) = 0 from rfl]
   generalize (MsgR.nums m).drop 0 = l at *
   refine zbj (α := Nat) (E := fun k => [(13, .slice (some ⟨g1, 1, none⟩) 6 6), (14, .int .i64 (6 : Nat)), (15, .int .i64 k)]) (H := fun _ => .blk g1 25 m.enc :: h') (μ := fun k => 6 - k)
    (S := fun k => k ≤ 6 ∧ ∀ (j : Nat) v, j < k → l[j]? = some v → (v == 0) = true) 0 ⟨Nat.zero_le _, fun j v hj => absurd hj (Nat.not_lt_zero _)⟩ ⟨rfl, rfl, rfl, trivial⟩ (by (repeat (first | exact zar))) ?_
   rintro k ⟨hk, hgd⟩
   by_cases hlt : k < 6
   ·obtain ⟨v, hv⟩ : ∃ v, l[k]? = some v := ⟨l[k]'(by omega), List.getElem?_eq_getElem (by omega)⟩
    have hv2 : l[(k : Int).toNat]? = some v := by simpa using hv
    have hd1 : decide ((k : Int) < ((6 : Nat) : Int)) = true := by simp; omega
    have hix := zed (kd := .i64) hv2
    by_cases hz : v = 0
    ·repeat' (first | apply zae | apply zaa | apply zah | apply zaf | apply zad | apply zab hT; iterate 4 exact rfl | (apply zaN hT; (iterate 4 exact rfl); (iterate 2 (first | omega ))) | apply zaS hT; (iterate 8 exact rfl); (iterate 2 omega); exact rfl | apply zal; (iterate 5 exact rfl); exact zbl hT rfl rfl hrd rfl hix | (apply zam; exact rfl; all_goals (intro hb; (try dsimp only at hb); (try simp only [hb]); (first | replace hb := odt hb | replace hb := odf hb | replace hb := zaD hb | replace hb := zaE hb ); (try omega))))
     all_goals first
      | (exfalso; omega)
      | exact zaR (k + 1) (by (try dsimp only); omega) ⟨by (try dsimp only); omega, fun j w hj hw => by
         by_cases e : j = k
         ·rw [e, hv] at hw; cases hw; rw [hz]; rfl
         ·exact hgd j w (by (try dsimp only at hj); omega) hw⟩ ⟨rfl, rfl, rfl, trivial⟩ (by (repeat (first | exact zar)))
      | skip
    ·have hno : l.all (fun v => v == 0) = false := by
      rw [List.all_eq_false]
      exact ⟨v, List.mem_of_getElem? hv, by simpa using hz⟩
     repeat' (first | apply zae | apply zaa | apply zaj | apply zah | apply zaf | apply zad | apply zab hT; iterate 4 exact rfl | apply zaS hT; (iterate 8 exact rfl); (iterate 2 omega); exact rfl | apply zal; (iterate 5 exact rfl); exact zbl hT rfl rfl hrd rfl hix | (apply zam; exact rfl; all_goals (intro hb; (try dsimp only at hb); (try simp only [hb]); (first | replace hb := odt hb | replace hb := odf hb | replace hb := zaD hb | replace hb := zaE hb ); (try omega))))
     all_goals first
      | (exfalso; omega)
      | (apply ret1; exact rfl; exact ⟨by rw [hno], by (repeat (first | exact zar | apply zat))⟩)
      | skip
   ·obtain rfl : k = 6 := by omega
    have hd1 : decide (((6 : Nat) : Int) < ((6 : Nat) : Int)) = false := by simp
    have hyes : l.all (fun v => v == 0) = true := by
     rw [List.all_eq_true]
     intro v hv
     obtain ⟨j, hj⟩ := List.getElem?_of_mem hv
     exact hgd j v (by have := (List.getElem?_eq_some_iff.1 hj).1; omega) hj
    repeat' (first | apply zae | apply zaa | apply zaj | apply zas | apply zad | apply zab hT; iterate 4 exact rfl | apply zag; iterate 2 exact rfl)
    all_goals first
     | (exfalso; omega)
     | (apply ret1; exact rfl; exact ⟨by rw [hyes], by (repeat (first | exact zar | apply zat))⟩)
     | skip
  ·repeat' (first | apply zae | apply zaa | apply zah | apply zaf | apply zad | apply zab hT; iterate 4 exact rfl | apply zaK; (iterate 5 exact rfl); intro g1 | (apply zac (hs := (hM.mono (by simp))); iterate 7 exact rfl) | apply zbQ hT; (iterate 8 exact rfl); (iterate 2 omega) | (apply zal; (iterate 5 exact rfl); first | (apply zaC hT; exact rfl; exact rfl; (repeat (first | exact mcs )); exact rfl; exact rfl) ) | apply zag; iterate 2 exact rfl)
   all_goals try omega
   have hrd : zaJ W (.blk g1 25 m.enc :: h') (some ⟨g1, 2, none⟩) 5 1 (((MsgR.nums m).drop 1).map (Value.int .i64)) := zaJ.blk mem0 rfl rfl (fun v hv => by
    obtain ⟨y, _, rfl⟩ := List.mem_map.1 hv
    rfl)
   have hll : ((MsgR.nums m).drop 1).length = 5 := rfl
   show AW _ _ _ _ _ _ _
   rw [show (Int.toNat ((1 : Nat) : Int)) = 1 from rfl]
   generalize (MsgR.nums m).drop 1 = l at *
   refine zbj (α := Nat) (E := fun k => [(13, .slice (some ⟨g1, 2, none⟩) 5 5), (14, .int .i64 (5 : Nat)), (15, .int .i64 k)]) (H := fun _ => .blk g1 25 m.enc :: h') (μ := fun k => 5 - k)
    (S := fun k => k ≤ 5 ∧ ∀ (j : Nat) v, j < k → l[j]? = some v → (v == 0) = true) 0 ⟨Nat.zero_le _, fun j v hj => absurd hj (Nat.not_lt_zero _)⟩ ⟨rfl, rfl, rfl, trivial⟩ (by (repeat (first | exact zar))) ?_
   rintro k ⟨hk, hgd⟩
   by_cases hlt : k < 5
   ·obtain ⟨v, hv⟩ : ∃ v, l[k]? = some v := ⟨l[k]'(by omega), List.getElem?_eq_getElem (by omega)⟩
    have hv2 : l[(k : Int).toNat]? = some v := by simpa using hv
    have hd1 : decide ((k : Int) < ((5 : Nat) : Int)) = true := by simp; omega
    have hix := zed (kd := .i64) hv2
    by_cases hz : v = 0
    ·repeat' (first | apply zae | apply zaa | apply zah | apply zaf | apply zad | apply zab hT; iterate 4 exact rfl | (apply zaN hT; (iterate 4 exact rfl); (iterate 2 (first | omega ))) | apply zaS hT; (iterate 8 exact rfl); (iterate 2 omega); exact rfl | apply zal; (iterate 5 exact rfl); exact zbl hT rfl rfl hrd rfl hix | (apply zam; exact rfl; all_goals (intro hb; (try dsimp only at hb); (try simp only [hb]); (first | replace hb := odt hb | replace hb := odf hb | replace hb := zaD hb | replace hb := zaE hb ); (try omega))))
     all_goals first
      | (exfalso; omega)
      | exact zaR (k + 1) (by (try dsimp only); omega) ⟨by (try dsimp only); omega, fun j w hj hw => by
         by_cases e : j = k
         ·rw [e, hv] at hw; cases hw; rw [hz]; rfl
         ·exact hgd j w (by (try dsimp only at hj); omega) hw⟩ ⟨rfl, rfl, rfl, trivial⟩ (by (repeat (first | exact zar)))
      | skip
    ·have hno : l.all (fun v => v == 0) = false := by
      rw [List.all_eq_false]
      exact ⟨v, List.mem_of_getElem? hv, by simpa using hz⟩
     repeat' (first | apply zae | apply zaa | apply zaj | apply zah | apply zaf | apply zad | apply zab hT; iterate 4 exact rfl | apply zaS hT; (iterate 8 exact rfl); (iterate 2 omega); exact rfl | apply zal; (iterate 5 exact rfl); exact zbl hT rfl rfl hrd rfl hix | (apply zam; exact rfl; all_goals (intro hb; (try dsimp only at hb); (try simp only [hb]); (first | replace hb := odt hb | replace hb := odf hb | replace hb := zaD hb | replace hb := zaE hb ); (try omega))))
     all_goals first
      | (exfalso; omega)
      | (apply ret1; exact rfl; exact ⟨by rw [hno], by (repeat (first | exact zar | apply zat))⟩)
      | skip
   ·obtain rfl : k = 5 := by omega
    have hd1 : decide (((5 : Nat) : Int) < ((5 : Nat) : Int)) = false := by simp
    have hyes : l.all (fun v => v == 0) = true := by
     rw [List.all_eq_true]
     intro v hv
     obtain ⟨j, hj⟩ := List.getElem?_of_mem hv
     exact hgd j v (by have := (List.getElem?_eq_some_iff.1 hj).1; omega) hj
    repeat' (first | apply zae | apply zaa | apply zaj | apply zas | apply zad | apply zab hT; iterate 4 exact rfl | apply zag; iterate 2 exact rfl)
    all_goals first
     | (exfalso; omega)
     | (apply ret1; exact rfl; exact ⟨by rw [hyes], by (repeat (first | exact zar | apply zat))⟩)
     | skip
  ·repeat' (first | apply zae | apply zaa | apply zah | apply zaf | apply zad | apply zab hT; iterate 4 exact rfl | apply zaK; (iterate 5 exact rfl); intro g1 | (apply zac (hs := (hM.mono (by simp))); iterate 7 exact rfl) | apply zbQ hT; (iterate 8 exact rfl); (iterate 2 omega) | (apply zal; (iterate 5 exact rfl); first | (apply zaC hT; exact rfl; exact rfl; (repeat (first | exact mcs )); exact rfl; exact rfl) ) | apply zag; iterate 2 exact rfl)
   all_goals try omega
   have hrd : zaJ W (.blk g1 25 m.enc :: h') (some ⟨g1, 3, none⟩) 4 1 (((MsgR.nums m).drop 2).map (Value.int .i64)) := zaJ.blk mem0 rfl rfl (fun v hv => by
    obtain ⟨y, _, rfl⟩ := List.mem_map.1 hv
    rfl)
   have hll : ((MsgR.nums m).drop 2).length = 4 := rfl
   show AW _ _ _ _ _ _ _
   rw [show (Int.toNat ((2 : Nat) : Int)) = 2 from rfl]
   generalize (MsgR.nums m).drop 2 = l at *
   refine zbj (α := Nat) (E := fun k => [(13, .slice (some ⟨g1, 3, none⟩) 4 4), (14, .int .i64 (4 : Nat)), (15, .int .i64 k)]) (H := fun _ => .blk g1 25 m.enc :: h') (μ := fun k => 4 - k)
    (S := fun k => k ≤ 4 ∧ ∀ (j : Nat) v, j < k → l[j]? = some v → (v == 0) = true) 0 ⟨Nat.zero_le _, fun j v hj => absurd hj (Nat.not_lt_zero _)⟩ ⟨rfl, rfl, rfl, trivial⟩ (by (repeat (first | exact zar))) ?_
   rintro k ⟨hk, hgd⟩
   by_cases hlt : k < 4
   ·obtain ⟨v, hv⟩ : ∃ v, l[k]? = some v := ⟨l[k]'(by omega), List.getElem?_eq_getElem (by omega)⟩
    have hv2 : l[(k : Int).toNat]? = some v := by simpa using hv
    have hd1 : decide ((k : Int) < ((4 : Nat) : Int)) = true := by simp; omega
    have hix := zed (kd := .i64) hv2
    by_cases hz : v = 0
    ·repeat' (first | apply zae | apply zaa | apply zah | apply zaf | apply zad | apply zab hT; iterate 4 exact rfl | (apply zaN hT; (iterate 4 exact rfl); (iterate 2 (first | omega ))) | apply zaS hT; (iterate 8 exact rfl); (iterate 2 omega); exact rfl | apply zal; (iterate 5 exact rfl); exact zbl hT rfl rfl hrd rfl hix | (apply zam; exact rfl; all_goals (intro hb; (try dsimp only at hb); (try simp only [hb]); (first | replace hb := odt hb | replace hb := odf hb | replace hb := zaD hb | replace hb := zaE hb ); (try omega))))
     all_goals first
      | (exfalso; omega)
      | exact zaR (k + 1) (by (try dsimp only); omega) ⟨by (try dsimp only); omega, fun j w hj hw => by
         by_cases e : j = k
         ·rw [e, hv] at hw; cases hw; rw [hz]; rfl
         ·exact hgd j w (by (try dsimp only at hj); omega) hw⟩ ⟨rfl, rfl, rfl, trivial⟩ (by (repeat (first | exact zar)))
      | skip
    ·have hno : l.all (fun v => v == 0) = false := by
      rw [List.all_eq_false]
      exact ⟨v, List.mem_of_getElem? hv, by simpa using hz⟩
     repeat' (first | apply zae | apply zaa | apply zaj | apply zah | apply zaf | apply zad | apply zab hT; iterate 4 exact rfl | apply zaS hT; (iterate 8 exact rfl); (iterate 2 omega); exact rfl | apply zal; (iterate 5 exact rfl); exact zbl hT rfl rfl hrd rfl hix | (apply zam; exact rfl; all_goals (intro hb; (try dsimp only at hb); (try simp only [hb]); (first | replace hb := odt hb | replace hb := odf hb | replace hb := zaD hb | replace hb := zaE hb ); (try omega))))
     all_goals first
      | (exfalso; omega)
      | (apply ret1; exact rfl; exact ⟨by rw [hno], by (repeat (first | exact zar | apply zat))⟩)
      | skip
   ·obtain rfl : k = 4 := by omega
    have hd1 : decide (((4 : Nat) : Int) < ((4 : Nat) : Int)) = false := by simp
    have hyes : l.all (fun v => v == 0) = true := by
     rw [List.all_eq_true]
     intro v hv
     obtain ⟨j, hj⟩ := List.getElem?_of_mem hv
     exact hgd j v (by have := (List.getElem?_eq_some_iff.1 hj).1; omega) hj
    repeat' (first | apply zae | apply zaa | apply zaj | apply zas | apply zad | apply zab hT; iterate 4 exact rfl | apply zag; iterate 2 exact rfl)
    all_goals first
     | (exfalso; omega)
     | (apply ret1; exact rfl; exact ⟨by rw [hyes], by (repeat (first | exact zar | apply zat))⟩)
     | skip
  ·repeat' (first | apply zae | apply zaa | apply zah | apply zaf | apply zad | apply zab hT; iterate 4 exact rfl | apply zaK; (iterate 5 exact rfl); intro g1 | (apply zac (hs := (hM.mono (by simp))); iterate 7 exact rfl) | apply zbQ hT; (iterate 8 exact rfl); (iterate 2 omega) | (apply zal; (iterate 5 exact rfl); first | (apply zaC hT; exact rfl; exact rfl; (repeat (first | exact mcs )); exact rfl; exact rfl) ) | apply zag; iterate 2 exact rfl)
   all_goals try omega
   have hrd : zaJ W (.blk g1 25 m.enc :: h') (some ⟨g1, 4, none⟩) 3 1 (((MsgR.nums m).drop 3).map (Value.int .i64)) := zaJ.blk mem0 rfl rfl (fun v hv => by
    obtain ⟨y, _, rfl⟩ := List.mem_map.1 hv
    rfl)
   have hll : ((MsgR.nums m).drop 3).length = 3 := rfl
   show AW _ _ _ _ _ _ _
   rw [show (Int.toNat ((3 : Nat) : Int)) = 3 from rfl]
   generalize (MsgR.nums m).drop 3 = l at *
   refine zbj (α := Nat) (E := fun k => [(13, .slice (some ⟨g1, 4, none⟩) 3 3), (14, .int .i64 (3 : Nat)), (15, .int .i64 k)]) (H := fun _ => .blk g1 25 m.enc :: h') (μ := fun k => 3 - k)
    (S := fun k => k ≤ 3 ∧ ∀ (j : Nat) v, j < k → l[j]? = some v → (v == 0) = true) 0 ⟨Nat.zero_le _, fun j v hj => absurd hj (Nat.not_lt_zero _)⟩ ⟨rfl, rfl, rfl, trivial⟩ (by (repeat (first | exact zar))) ?_
   rintro k ⟨hk, hgd⟩
   by_cases hlt : k < 3
   ·obtain ⟨v, hv⟩ : ∃ v, l[k]? = some v := ⟨l[k]'(by omega), List.getElem?_eq_getElem (by omega)⟩
    have hv2 : l[(k : Int).toNat]? = some v := by simpa using hv
    have hd1 : decide ((k : Int) < ((3 : Nat) : Int)) = true := by simp; omega
    have hix := zed (kd := .i64) hv2
    by_cases hz : v = 0
    ·repeat' (first | apply zae | apply zaa | apply zah | apply zaf | apply zad | apply zab hT; iterate 4 exact rfl | (apply zaN hT; (iterate 4 exact rfl); (iterate 2 (first | omega ))) | apply zaS hT; (iterate 8 exact rfl); (iterate 2 omega); exact rfl | apply zal; (iterate 5 exact rfl); exact zbl hT rfl rfl hrd rfl hix | (apply zam; exact rfl; all_goals (intro hb; (try dsimp only at hb); (try simp only [hb]); (first | replace hb := odt hb | replace hb := odf hb | replace hb := zaD hb | replace hb := zaE hb ); (try omega))))
     all_goals first
      | (exfalso; omega)
      | exact zaR (k + 1) (by (try dsimp only); omega) ⟨by (try dsimp only); omega, fun j w hj hw => by
         by_cases e : j = k
         ·rw [e, hv] at hw; cases hw; rw [hz]; rfl
         ·exact hgd j w (by (try dsimp only at hj); omega) hw⟩ ⟨rfl, rfl, rfl, trivial⟩ (by (repeat (first | exact zar)))
      | skip
    ·have hno : l.all (fun v => v == 0) = false := by
      rw [List.all_eq_false]
      exact ⟨v, List.mem_of_getElem? hv, by simpa using hz⟩
     repeat' (first | apply zae | apply zaa | apply zaj | apply zah | apply zaf | apply zad | apply zab hT; iterate 4 exact rfl | apply zaS hT; (iterate 8 exact rfl); (iterate 2 omega); exact rfl | apply zal; (iterate 5 exact rfl); exact zbl hT rfl rfl hrd rfl hix | (apply zam; exact rfl; all_goals (intro hb; (try dsimp only at hb); (try simp only [hb]); (first | replace hb := odt hb | replace hb := odf hb | replace hb := zaD hb | replace hb := zaE hb ); (try omega))))
     all_goals first
      | (exfalso; omega)
      | (apply ret1; exact rfl; exact ⟨by rw [hno], by (repeat (first | exact zar | apply zat))⟩)
      | skip
   ·obtain rfl : k = 3 := by omega
    have hd1 : decide (((3 : Nat) : Int) < ((3 : Nat) : Int)) = false := by simp
    have hyes : l.all (fun v => v == 0) = true := by
     rw [List.all_eq_true]
     intro v hv
     obtain ⟨j, hj⟩ := List.getElem?_of_mem hv
     exact hgd j v (by have := (List.getElem?_eq_some_iff.1 hj).1; omega) hj
    repeat' (first | apply zae | apply zaa | apply zaj | apply zas | apply zad | apply zab hT; iterate 4 exact rfl | apply zag; iterate 2 exact rfl)
    all_goals first
     | (exfalso; omega)
     | (apply ret1; exact rfl; exact ⟨by rw [hyes], by (repeat (first | exact zar | apply zat))⟩)
     | skip
  ·repeat' (first | apply zae | apply zaa | apply zah | apply zaf | apply zad | apply zab hT; iterate 4 exact rfl | apply zaK; (iterate 5 exact rfl); intro g1 | (apply zac (hs := (hM.mono (by simp))); iterate 7 exact rfl) | apply zbQ hT; (iterate 8 exact rfl); (iterate 2 omega) | (apply zal; (iterate 5 exact rfl); first | (apply zaC hT; exact rfl; exact rfl; (repeat (first | exact mcs )); exact rfl; exact rfl) ) | apply zag; iterate 2 exact rfl)
   all_goals try omega
   have hrd : zaJ W (.blk g1 25 m.enc :: h') (some ⟨g1, 5, none⟩) 2 1 (((MsgR.nums m).drop 4).map (Value.int .i64)) := zaJ.blk mem0 rfl rfl (fun v hv => by
    obtain ⟨y, _, rfl⟩ := List.mem_map.1 hv
    rfl)
   have hll : ((MsgR.nums m).drop 4).length = 2 := rfl
   show AW _ _ _ _ _ _ _
   rw [show (Int.toNat ((4 : Nat) : Int)) = 4 from rfl]
   generalize (MsgR.nums m).drop 4 = l at *
   refine zbj (α := Nat) (E := fun k => [(13, .slice (some ⟨g1, 5, none⟩) 2 2), (14, .int .i64 (2 : Nat)), (15, .int .i64 k)]) (H := fun _ => .blk g1 25 m.enc :: h') (μ := fun k => 2 - k)
    (S := fun k => k ≤ 2 ∧ ∀ (j : Nat) v, j < k → l[j]? = some v → (v == 0) = true) 0 ⟨Nat.zero_le _, fun j v hj => absurd hj (Nat.not_lt_zero _)⟩ ⟨rfl, rfl, rfl, trivial⟩ (by (repeat (first | exact zar))) ?_
   rintro k ⟨hk, hgd⟩
   by_cases hlt : k < 2
   ·obtain ⟨v, hv⟩ : ∃ v, l[k]? = some v := ⟨l[k]'(by omega), List.getElem?_eq_getElem (by omega)⟩
    have hv2 : l[(k : Int).toNat]? = some v := by simpa using hv
    have hd1 : decide ((k : Int) < ((2 : Nat) : Int)) = true := by simp; omega
    have hix := zed (kd := .i64) hv2
    by_cases hz : v = 0
    ·repeat' (first | apply zae | apply zaa | apply zah | apply zaf | apply zad | apply zab hT; iterate 4 exact rfl | (apply zaN hT; (iterate 4 exact rfl); (iterate 2 (first | omega ))) | apply zaS hT; (iterate 8 exact rfl); (iterate 2 omega); exact rfl | apply zal; (iterate 5 exact rfl); exact zbl hT rfl rfl hrd rfl hix | (apply zam; exact rfl; all_goals (intro hb; (try dsimp only at hb); (try simp only [hb]); (first | replace hb := odt hb | replace hb := odf hb | replace hb := zaD hb | replace hb := zaE hb ); (try omega))))
     all_goals first
      | (exfalso; omega)
      | exact zaR (k + 1) (by (try dsimp only); omega) ⟨by (try dsimp only); omega, fun j w hj hw => by
         by_cases e : j = k
         ·rw [e, hv] at hw; cases hw; rw [hz]; rfl
         ·exact hgd j w (by (try dsimp only at hj); omega) hw⟩ ⟨rfl, rfl, rfl, trivial⟩ (by (repeat (first | exact zar)))
      | skip
    ·have hno : l.all (fun v => v == 0) = false := by
      rw [List.all_eq_false]
      exact ⟨v, List.mem_of_getElem? hv, by simpa using hz⟩
     repeat' (first | apply zae | apply zaa | apply zaj | apply zah | apply zaf | apply zad | apply zab hT; iterate 4 exact rfl | apply zaS hT; (iterate 8 exact rfl); (iterate 2 omega); exact rfl | apply zal; (iterate 5 exact rfl); exact zbl hT rfl rfl hrd rfl hix | (apply zam; exact rfl; all_goals (intro hb; (try dsimp only at hb); (try simp only [hb]); (first | replace hb := odt hb | replace hb := odf hb | replace hb := zaD hb | replace hb := zaE hb ); (try omega))))
     all_goals first
      | (exfalso; omega)
      | (apply ret1; exact rfl; exact ⟨by rw [hno], by (repeat (first | exact zar | apply zat))⟩)
      | skip
   ·obtain rfl : k = 2 := by omega
    have hd1 : decide (((2 : Nat) : Int) < ((2 : Nat) : Int)) = false := by simp
    have hyes : l.all (fun v => v == 0) = true := by
     rw [List.all_eq_true]
     intro v hv
     obtain ⟨j, hj⟩ := List.getElem?_of_mem hv
     exact hgd j v (by have := (List.getElem?_eq_some_iff.1 hj).1; omega) hj
    repeat' (first | apply zae | apply zaa | apply zaj | apply zas | apply zad | apply zab hT; iterate 4 exact rfl | apply zag; iterate 2 exact rfl)
    all_goals first
     | (exfalso; omega)
     | (apply ret1; exact rfl; exact ⟨by rw [hyes], by (repeat (first | exact zar | apply zat))⟩)
     | skip
  ·repeat' (first | apply zae | apply zaa | apply zah | apply zaf | apply zad | apply zab hT; iterate 4 exact rfl | apply zaK; (iterate 5 exact rfl); intro g1 | (apply zac (hs := (hM.mono (by simp))); iterate 7 exact rfl) | apply zbQ hT; (iterate 8 exact rfl); (iterate 2 omega) | (apply zal; (iterate 5 exact rfl); first | (apply zaC hT; exact rfl; exact rfl; (repeat (first | exact mcs )); exact rfl; exact rfl) ) | apply zag; iterate 2 exact rfl)
   all_goals try omega
   have hrd : zaJ W (.blk g1 25 m.enc :: h') (some ⟨g1, 6, none⟩) 1 1 (((MsgR.nums m).drop 5).map (Value.int .i64)) := zaJ.blk mem0 rfl rfl (fun v hv => by
    obtain ⟨y, _, rfl⟩ := List.mem_map.1 hv
    rfl)
   have hll : ((MsgR.nums m).drop 5).length = 1 := rfl
   show AW _ _ _ _ _ _ _
   rw [show (Int.toNat ((5 : Nat) : Int)) = 5 from rfl]
   generalize (MsgR.nums m).drop 5 = l at *
   refine zbj (α := Nat) (E := fun k => [(13, .slice (some ⟨g1, 6, none⟩) 1 1), (14, .int .i64 (1 : Nat)), (15, .int .i64 k)]) (H := fun _ => .blk g1 25 m.enc :: h') (μ := fun k => 1 - k)
    (S := fun k => k ≤ 1 ∧ ∀ (j : Nat) v, j < k → l[j]? = some v → (v == 0) = true) 0 ⟨Nat.zero_le _, fun j v hj => absurd hj (Nat.not_lt_zero _)⟩ ⟨rfl, rfl, rfl, trivial⟩ (by (repeat (first | exact zar))) ?_
   rintro k ⟨hk, hgd⟩
   by_cases hlt : k < 1
   ·obtain ⟨v, hv⟩ : ∃ v, l[k]? = some v := ⟨l[k]'(by omega), List.getElem?_eq_getElem (by omega)⟩
    have hv2 : l[(k : Int).toNat]? = some v := by simpa using hv
    have hd1 : decide ((k : Int) < ((1 : Nat) : Int)) = true := by simp; omega
    have hix := zed (kd := .i64) hv2
    by_cases hz : v = 0
    ·repeat' (first | apply zae | apply zaa | apply zah | apply zaf | apply zad | apply zab hT; iterate 4 exact rfl | (apply zaN hT; (iterate 4 exact rfl); (iterate 2 (first | omega ))) | apply zaS hT; (iterate 8 exact rfl); (iterate 2 omega); exact rfl | apply zal; (iterate 5 exact rfl); exact zbl hT rfl rfl hrd rfl hix | (apply zam; exact rfl; all_goals (intro hb; (try dsimp only at hb); (try simp only [hb]); (first | replace hb := odt hb | replace hb := odf hb | replace hb := zaD hb | replace hb := zaE hb ); (try omega))))
     all_goals first
      | (exfalso; omega)
      | exact zaR (k + 1) (by (try dsimp only); omega) ⟨by (try dsimp only); omega, fun j w hj hw => by
         by_cases e : j = k
         ·rw [e, hv] at hw; cases hw; rw [hz]; rfl
         ·exact hgd j w (by (try dsimp only at hj); omega) hw⟩ ⟨rfl, rfl, rfl, trivial⟩ (by (repeat (first | exact zar)))
      | skip
    ·have hno : l.all (fun v => v == 0) = false := by
      rw [List.all_eq_false]
      exact ⟨v, List.mem_of_getElem? hv, by simpa using hz⟩
     repeat' (first | apply zae | apply zaa | apply zaj | apply zah | apply zaf | apply zad | apply zab hT; iterate 4 exact rfl | apply zaS hT; (iterate 8 exact rfl); (iterate 2 omega); exact rfl | apply zal; (iterate 5 exact rfl); exact zbl hT rfl rfl hrd rfl hix | (apply zam; exact rfl; all_goals (intro hb; (try dsimp only at hb); (try simp only [hb]); (first | replace hb := odt hb | replace hb := odf hb | replace hb := zaD hb | replace hb := zaE hb ); (try omega))))
     all_goals first
      | (exfalso; omega)
      | (apply ret1; exact rfl; exact ⟨by rw [hno], by (repeat (first | exact zar | apply zat))⟩)
      | skip
   ·obtain rfl : k = 1 := by omega
    have hd1 : decide (((1 : Nat) : Int) < ((1 : Nat) : Int)) = false := by simp
    have hyes : l.all (fun v => v == 0) = true := by
     rw [List.all_eq_true]
     intro v hv
     obtain ⟨j, hj⟩ := List.getElem?_of_mem hv
     exact hgd j v (by have := (List.getElem?_eq_some_iff.1 hj).1; omega) hj
    repeat' (first | apply zae | apply zaa | apply zaj | apply zas | apply zad | apply zab hT; iterate 4 exact rfl | apply zag; iterate 2 exact rfl)
    all_goals first
     | (exfalso; omega)
     | (apply ret1; exact rfl; exact ⟨by rw [hyes], by (repeat (first | exact zar | apply zat))⟩)
     | skip
  ·repeat' (first | apply zae | apply zaa | apply zah | apply zaf | apply zad | apply zab hT; iterate 4 exact rfl | apply zaK; (iterate 5 exact rfl); intro g1 | (apply zac (hs := (hM.mono (by simp))); iterate 7 exact rfl) | apply zbQ hT; (iterate 8 exact rfl); (iterate 2 omega) | (apply zal; (iterate 5 exact rfl); first | (apply zaC hT; exact rfl; exact rfl; (repeat (first | exact mcs )); exact rfl; exact rfl) ) | apply zag; iterate 2 exact rfl)
   all_goals try omega
   have hrd : zaJ W (.blk g1 25 m.enc :: h') (some ⟨g1, 1, none⟩) 0 1 (((MsgR.nums m).drop 6).map (Value.int .i64)) := zaJ.blk mem0 rfl rfl (fun v hv => by
    obtain ⟨y, _, rfl⟩ := List.mem_map.1 hv
    rfl)
   have hll : ((MsgR.nums m).drop 6).length = 0 := rfl
   show AW _ _ _ _ _ _ _
   rw [show (Int.toNat ((6 : Nat) : Int)) = 6 from rfl]
   generalize (MsgR.nums m).drop 6 = l at *
   refine zbj (α := Nat) (E := fun k => [(13, .slice (some ⟨g1, 1, none⟩) 0 0), (14, .int .i64 (0 : Nat)), (15, .int .i64 k)]) (H := fun _ => .blk g1 25 m.enc :: h') (μ := fun k => 0 - k)
    (S := fun k => k ≤ 0 ∧ ∀ (j : Nat) v, j < k → l[j]? = some v → (v == 0) = true) 0 ⟨Nat.zero_le _, fun j v hj => absurd hj (Nat.not_lt_zero _)⟩ ⟨rfl, rfl, rfl, trivial⟩ (by (repeat (first | exact zar))) ?_
   rintro k ⟨hk, hgd⟩
   by_cases hlt : k < 0
   ·obtain ⟨v, hv⟩ : ∃ v, l[k]? = some v := ⟨l[k]'(by omega), List.getElem?_eq_getElem (by omega)⟩
    have hv2 : l[(k : Int).toNat]? = some v := by simpa using hv
    have hd1 : decide ((k : Int) < ((0 : Nat) : Int)) = true := by simp; omega
    have hix := zed (kd := .i64) hv2
    by_cases hz : v = 0
    ·repeat' (first | apply zae | apply zaa | apply zaj | apply zas | apply zad | apply zab hT; iterate 4 exact rfl | apply zag; iterate 2 exact rfl)
     all_goals first
      | (exfalso; omega)
      | exact zaR (k + 1) (by (try dsimp only); omega) ⟨by (try dsimp only); omega, fun j w hj hw => by
         by_cases e : j = k
         ·rw [e, hv] at hw; cases hw; rw [hz]; rfl
         ·exact hgd j w (by (try dsimp only at hj); omega) hw⟩ ⟨rfl, rfl, rfl, trivial⟩ (by (repeat (first | exact zar | (apply zay; · (repeat (first | exact sel0 | apply selS | apply zbO))) | apply zat | apply zdN)))
      | skip
    ·have hno : l.all (fun v => v == 0) = false := by
      rw [List.all_eq_false]
      exact ⟨v, List.mem_of_getElem? hv, by simpa using hz⟩
     repeat' (first | apply zae | apply zaa | apply zaj | apply zas | apply zad | apply zab hT; iterate 4 exact rfl | apply zag; iterate 2 exact rfl)
     all_goals first
      | (exfalso; omega)
      | (apply ret1; exact rfl; exact ⟨by rw [hno], by (repeat (first | exact zar | (apply zay; · (repeat (first | exact sel0 | apply selS | apply zbO))) | apply zat | apply zdN))⟩)
      | skip
   ·obtain rfl : k = 0 := by omega
    have hd1 : decide (((0 : Nat) : Int) < ((0 : Nat) : Int)) = false := by simp
    have hyes : l.all (fun v => v == 0) = true := by
     rw [List.all_eq_true]
     intro v hv
     obtain ⟨j, hj⟩ := List.getElem?_of_mem hv
     exact hgd j v (by have := (List.getElem?_eq_some_iff.1 hj).1; omega) hj
    repeat' (first | apply zae | apply zaa | apply zaj | apply zas | apply zad | apply zab hT; iterate 4 exact rfl | apply zag; iterate 2 exact rfl)
    all_goals first
     | (exfalso; omega)
     | (apply ret1; exact rfl; exact ⟨by rw [hyes], by (repeat (first | exact zar | apply zat))⟩)
     | skip
theorem zgK {a b : Nat} (ha : a < 2 ^ 64) (hb : b < 2 ^ 64) : bitI .xor .u64 (a : Int) (b : Int) = ((a ^^^ b : Nat) : Int) := by
 show IntKind.u64.wrap ((BitVec.ofInt 64 (a : Int) ^^^ BitVec.ofInt 64 (b : Int)).toNat : Int) = _
 rw [BitVec.toNat_xor, BitVec.ofInt_natCast, BitVec.ofInt_natCast, BitVec.toNat_ofNat, BitVec.toNat_ofNat, Nat.mod_eq_of_lt ha, Nat.mod_eq_of_lt hb]
 have := Nat.xor_lt_two_pow ha hb
 exact IntWalk.u64_in _ ⟨by omega, by omega⟩
def byV (b : Nat) : Value := .int .u8 (b : Int)
theorem zpK {l : List Nat} {i : Nat} {n : Nat} (h : l[i]? = some n) : (l.map byV)[i * 1]? = some (.int .u8 (n : Int)) := by simp [h]; rfl
theorem zpb (x b : Nat) : mixN x b = (x ^^^ b) * 1099511628211 % 18446744073709551616 := rfl
theorem zmC {α β : Type} {f : β → α → β} {l : List α} {k : Nat} {b : α} (h : l[k]? = some b) (x : β) : (l.take (k + 1)).foldl f x = f ((l.take k).foldl f x) b := by
 rw [List.take_add_one, h, List.foldl_append]; rfl
theorem zn4 {bs : List Nat} {k b : Nat} (h : bs[k]? = some b) (x : Nat) : (bs.take (k + 1)).foldl mixN x = mixN ((bs.take k).foldl mixN x) b := zmC h x
set_option maxHeartbeats 1000000 in
theorem zmD (W : World) (h : List zax) (A : Option Addr) (c : Nat) (last : Nat) (bs : List Nat) (hl : last < 2 ^ 64) (hbs : ∀ b ∈ bs, b < 256) (hr : zaJ W h A bs.length 1 (bs.map byV)) (hb : bs.length ≤ 1000000) :
 zaL Tryz.prog W 187 [.int .u64 last, .slice A bs.length c] h (.int .u64 (zc8 last bs : Nat)) := by
 refine zaL.ofD (fun h' hs => ?_)
 have hrd := hr.mono hs
 have hx0 := zgK hl (show 1469598103934665603 < 2 ^ 64 by decide)
 rw [show ((1469598103934665603 : Nat) : Int) = 1469598103934665603 from by simp] at hx0
 have hx0l : last ^^^ 1469598103934665603 < 2 ^ 64 := zic hl (by decide)
 unfold zc8
 generalize last ^^^ 1469598103934665603 = x0 at *
 refine zan Tryz.func187 rfl rfl Tryz.results187 Tryz.ntmps187 rfl rfl ?_
 refine zaU hrd rfl (fun hA => ?_)
 repeat' (first | apply zae | apply zaa | apply zaf | apply zad | apply zab hT; iterate 4 exact rfl | apply zcZ; (iterate 6 exact rfl); exact hx0)
 refine zbj (α := Nat) (E := fun k => [(5, .int .u64 ((bs.take k).foldl mixN x0 : Nat)), (10, .slice A bs.length c), (11, .int .i64 bs.length), (12, .int .i64 k)]) (H := fun _ => h') (μ := fun k => bs.length - k)
  (S := fun k => k ≤ bs.length) 0 (Nat.zero_le _) ⟨rfl, rfl, rfl, rfl, trivial⟩ (by (repeat (first | exact zar))) ?_
 intro k hk
 have hxl : (bs.take k).foldl mixN x0 < 2 ^ 64 := zjJ _ hx0l
 by_cases hlt : k < bs.length
 ·obtain ⟨b, hbk⟩ : ∃ b, bs[k]? = some b := ⟨bs[k]'(by omega), List.getElem?_eq_getElem (by omega)⟩
  have hbk2 : bs[(k : Int).toNat]? = some b := by simpa using hbk
  have hA' := hA (by omega)
  have hd1 : decide ((k : Int) < (bs.length : Int)) = true := by simp; omega
  have hb256 := hbs b (List.mem_of_getElem? hbk)
  have hst := zn4 hbk x0
  rw [zpb] at hst
  generalize (bs.take k).foldl mixN x0 = x at *
  have hxb := zgK hxl (show b < 2 ^ 64 by omega)
  have hix := zpK hbk2
  have hme : ((x ^^^ b : Nat) : Int) * 1099511628211 % 18446744073709551616 = (((x ^^^ b) * 1099511628211 % 18446744073709551616 : Nat) : Int) := by omega
  repeat' (first | apply zae | apply zaa | apply zah | apply zaf | apply zad | apply zab hT; iterate 4 exact rfl | (apply zaN hT; (iterate 4 exact rfl); (iterate 2 (first | omega ))) | apply zaS hT; (iterate 8 exact rfl); (iterate 2 omega); exact hA' | apply zal; (iterate 5 exact rfl); exact zbl hT rfl rfl hrd rfl hix | apply zit hT; (iterate 4 exact rfl); (iterate 2 omega) | apply zcZ; (iterate 6 exact rfl); exact hxb | apply zlC hT; iterate 4 exact rfl | (apply zam; exact rfl; all_goals (intro hb; (try dsimp only at hb); (try simp only [hb]); (first | replace hb := odt hb | replace hb := odf hb ); (try omega))))
  all_goals first
   | (exfalso; omega)
   | exact zaR (k + 1) (by (try dsimp only); omega) (by (try dsimp only); omega) ⟨by rw [hst, ← hme]; rfl, rfl, rfl, rfl, trivial⟩ (by (repeat (first | exact zar)))
   | skip
 ·obtain rfl : k = bs.length := by omega
  have hd1 : decide ((bs.length : Int) < (bs.length : Int)) = false := by simp
  rw [List.take_length] at *
  generalize bs.foldl mixN x0 = x at *
  have hdv : x / 536870912 < 2 ^ 64 := Nat.lt_of_le_of_lt (Nat.div_le_self _ _) hxl
  have hxd := zgK hxl hdv
  have hsh : ((x : Nat) : Int) / ((2 ^ 29 : Nat) : Int) = ((x / 536870912 : Nat) : Int) := by
   rw [show (2 ^ 29 : Nat) = 536870912 from rfl]; omega
  rw [← hsh] at hxd
  repeat' (first | apply zae | apply zaa | apply zaj | apply zas | apply zad | apply zab hT; iterate 4 exact rfl | apply zlD (n := 29); (iterate 6 exact rfl); exact nle rfl | apply zcZ; (iterate 6 exact rfl); exact hxd | (apply zam; exact rfl; all_goals (intro hb; (try dsimp only at hb); (try simp only [hb]); (first | replace hb := odt hb | replace hb := odf hb ); (try omega))))
  all_goals first
   | (exfalso; omega)
   | (apply ret1; exact rfl; exact ⟨rfl, by (repeat (first | exact zar))⟩)
   | skip
end Go.Proofs.YtakilgkpfjhfdaaGreat
