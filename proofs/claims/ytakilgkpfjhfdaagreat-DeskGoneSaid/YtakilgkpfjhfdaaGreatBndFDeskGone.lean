/- The statements' walks, and what they stand on, joined into few texts: the last of DeskGone. Conditions stand in each statement. -/
import Derived.Test.YtakilgkpfjhfdaaGreatBndF6
set_option linter.all false
namespace Go.Proofs.YtakilgkpfjhfdaaGreat
open Go Go.Sl
attribute [local irreducible] AW ES EP Ld RetQ
set_option maxRecDepth 100000
theorem zbr (W : World) (h : List zax) (A : Option Addr) (c : Nat) (o : List OutR) {n : Int} (he : zbG o = n) (hr : zaJ W h A o.length 8 (o.flatMap OutR.enc)) : zaL Tryz.prog W 16 [.slice A o.length c] h (.int .i64 n) := he ▸ zhM W h A c o hr
theorem zlm (W : World) (h : List zax) (A1 A2 : Option Addr) (c1 c2 : Nat) (l1 l2 : List OutR) (hr1 : zaJ W h A1 l1.length 8 (l1.flatMap OutR.enc)) (hr2 : zaJ W h A2 l2.length 8 (l2.flatMap OutR.enc)) (hb : l1.length ≤ 1000000) :
 zaL Tryz.prog W 22 [.slice A1 l1.length c1, .slice A2 l2.length c2] h (.bool (decide (l1 = l2))) := by
 refine zaL.ofD (fun h' hs => ?_)
 have hr1 := hr1.mono hs
 have hr2 := hr2.mono hs
 refine zan Tryz.func22 rfl rfl Tryz.results22 Tryz.ntmps22 rfl rfl ?_
 refine zaU hr1 (by rfl) (fun hA1 => ?_)
 refine zaU hr2 (by rfl) (fun hA2 => ?_)
 by_cases hl : l1.length = l2.length
 ·have hd : ((l1.length : Int) != (l2.length : Int)) = false := by simp [hl]
  repeat' (first | apply zae | apply zaa | apply zah | apply zaf | apply zad | apply zab hT; iterate 4 exact rfl | (apply zam; exact rfl; all_goals (intro hb; (try dsimp only at hb); (try simp only [hb]); (first | replace hb := zaD hb | replace hb := zaE hb ); (try omega))))
  refine zbU (α := Nat) (E := fun k => [(0, .slice A1 l1.length c1), (1, .slice A2 l2.length c2), (5, .int .i64 k)]) (H := fun _ => h') (μ := fun k => l1.length - k)
   (S := fun k => k ≤ l1.length ∧ l1.take k = l2.take k) 0 (J := []) ⟨Nat.zero_le _, rfl⟩ ⟨rfl, rfl, rfl, trivial⟩ (List.Perm.refl _) ?_
  rintro k ⟨hk, he⟩
  by_cases hlt : k < l1.length
  ·obtain ⟨x, hx⟩ : ∃ x, l1[k]? = some x := ⟨l1[k]'(by omega), List.getElem?_eq_getElem (by omega)⟩
   obtain ⟨y, hy⟩ : ∃ y, l2[k]? = some y := ⟨l2[k]'(by omega), List.getElem?_eq_getElem (by omega)⟩
   have hx2 : l1[(k : Int).toNat]? = some x := by simpa using hx
   have hy2 : l2[(k : Int).toNat]? = some y := by simpa using hy
   have hA1 := hA1 (by omega)
   have hA2 := hA2 (by omega)
   have hd1 : decide ((k : Int) < (l1.length : Int)) = true := by simp; omega
   repeat' (first | apply zae | apply zaa | apply zaj | apply zah | apply zaf | apply zad | apply zab hT; iterate 4 exact rfl | (apply zaN hT; (iterate 4 exact rfl); (iterate 2 (first | omega ))) | apply zaM [] [] hmix; decide +kernel | (apply zaS hT; (iterate 8 exact rfl); (iterate 2 omega); first | exact hA1 | exact hA2) | (apply zal; (iterate 5 exact rfl); first | exact zaY hT rfl rfl hr1 OutR.enc_len rfl hx2 rfl | exact zaY hT rfl rfl hr2 OutR.enc_len rfl hy2 rfl) | apply zpP (n := 5) (hd := [45, 25]) (r := decide (x = y)) hT; (iterate 5 exact rfl); exact zpR x y; decide; exact znc; exact zkt.2 | (apply zam; exact rfl; all_goals (intro hb; (try dsimp only at hb); (try simp only [hb]); (first | replace hb := odt hb | replace hb := odf hb | skip); (try omega))))
   ·have hxy : x ≠ y := fun e => by subst e; simp at hb
    apply ret1; exact rfl
    refine ⟨?_, zar⟩
    rw [decide_eq_false (fun e => hxy (by rw [e, hy] at hx; exact (Option.some.inj hx).symm))]
   ·have hxy : x = y := by simpa using hb
    exact ⟨k + 1, [], by dsimp only; omega, ⟨by omega, by rw [List.take_add_one, List.take_add_one, he, hx, hy, hxy]⟩, ⟨rfl, rfl, rfl, trivial⟩, List.Perm.refl _⟩
  ·have hd1 : decide ((k : Int) < (l1.length : Int)) = false := by simp; omega
   obtain rfl : k = l1.length := by omega
   repeat' (first | apply zae | apply zaa | apply zaj | apply zas | apply zad | apply zab hT; iterate 4 exact rfl | (apply zam; exact rfl; all_goals (intro hb; (try dsimp only at hb); (try simp only [hb]); (first | replace hb := odt hb | replace hb := odf hb ); (try omega))))
   apply ret1; exact rfl
   refine ⟨?_, zar⟩
   rw [decide_eq_true (show l1 = l2 by rw [List.take_length] at he; rw [he, hl, List.take_length])]
 ·have hd : ((l1.length : Int) != (l2.length : Int)) = true := by simp; omega
  repeat' (first | apply zae | apply zaa | apply zaj | apply zad | apply zab hT; iterate 4 exact rfl | (apply zam; exact rfl; all_goals (intro hb; (try dsimp only at hb); (try simp only [hb]); (first | replace hb := zaD hb | replace hb := zaE hb ); (try omega))))
  apply ret1; exact rfl
  refine ⟨?_, zar⟩
  rw [decide_eq_false (fun e => hl (by rw [e]))]
theorem zg3 (W : World) (h : List zax) (A1 A2 : Option Addr) (c1 c2 : Nat) (l1 l2 : List OutR) (he : l1 = l2) (hr1 : zaJ W h A1 l1.length 8 (l1.flatMap OutR.enc)) (hr2 : zaJ W h A2 l2.length 8 (l2.flatMap OutR.enc)) (hb : l2.length ≤ 1000000) :
 zaL Tryz.prog W 22 [.slice A1 l1.length c1, .slice A2 l2.length c2] h (.bool true) :=
 (zlm W h A1 A2 c1 c2 l1 l2 hr1 hr2 (by rw [he]; exact hb)).cast (by rw [decide_eq_true he])
theorem zpn : (zdC false (zbi (doD false (doD false (wayD 0) 2 1 (zaw 6 [0, 1, 50, 20, 0])).1 2 2 (zaw 6 [1, 2, 900, 20, 0])).1).1 2).2 = [outM 2 21 [1, 20], outM 2 21 [2, 20]] ∧ zbG (doD false (zdC false (zbi (doD false (doD false (wayD 0) 2 1 (zaw 6 [0, 1, 50, 20, 0])).1 2 2 (zaw 6 [1, 2, 900, 20, 0])).1).1 2).1 2 9 (zaw 14 [1])).2 = 0 ∧ zbG (doD false (doD false (zdC false (zbi (doD false (doD false (wayD 0) 2 1 (zaw 6 [0, 1, 50, 20, 0])).1 2 2 (zaw 6 [1, 2, 900, 20, 0])).1).1 2).1 2 9 (zaw 14 [1])).1 0 9 (zaw 12 [3])).2 = 4 := by decide +kernel
set_option maxHeartbeats 8000000 in
theorem zrf (W : World) : zaB Tryz.prog W 7 [.bool true] [] (fun v _ => v = .bool true) := by
 refine zaB.dropTo ?_
 obtain ⟨hD0, hO0⟩ := zdo (w := 0) (.inl rfl)
 have hb0 : bitI .and .i64 0 3 = 0 := by decide +kernel
 have w1 : MsgW (zaw 6 [0, 1, 50, 20, 0]) := by unfold MsgW inW zaw; decide
 have d1 := fun G (x : DAd) b q f => zba W G x (wayD 0) b q (0) hD0 hO0 (by omega) f 2 1 _ w1
 have hD1 := hD0.do' (rf := false) 2 1 (zaw 6 [0, 1, 50, 20, 0])
 have hO1 := hO0.do' (rf := false) hD0 2 1 (zaw 6 [0, 1, 50, 20, 0])
 have w2 : MsgW (zaw 6 [1, 2, 900, 20, 0]) := by unfold MsgW inW zaw; decide
 have d2 := fun G (x : DAd) b q f => zba W G x (doD false (wayD 0) 2 1 (zaw 6 [0, 1, 50, 20, 0])).1 b q (0 + 1) hD1 hO1 (by omega) f 2 2 _ w2
 have hD2 := hD1.do' (rf := false) 2 2 (zaw 6 [1, 2, 900, 20, 0])
 have hO2 := hO1.do' (rf := false) hD1 2 2 (zaw 6 [1, 2, 900, 20, 0])
 have sk2 := zfl hD2 hO2
 have d3 := fun G (x : DAd) b q f => zg1 W G x (doD false (doD false (wayD 0) 2 1 (zaw 6 [0, 1, 50, 20, 0])).1 2 2 (zaw 6 [1, 2, 900, 20, 0])).1 b q (0 + 1 + 1) hD2 hO2 (by omega) f
 have hD3 := sk2.1
 have hO3 := sk2.2
 have d4 := fun G (x : DAd) b q f => zi8 W G x (zbi (doD false (doD false (wayD 0) 2 1 (zaw 6 [0, 1, 50, 20, 0])).1 2 2 (zaw 6 [1, 2, 900, 20, 0])).1).1 b q (0 + 1 + 1 + 4) hD3 (by omega) f 2
 have hD4 := hD3.gone (rf := false) 2
 have hO4 := hO3.gone (rf := false) 2
 have w5 : MsgW (zaw 14 [1]) := by unfold MsgW inW zaw; decide
 have d5 := fun G (x : DAd) b q f => zba W G x (zdC false (zbi (doD false (doD false (wayD 0) 2 1 (zaw 6 [0, 1, 50, 20, 0])).1 2 2 (zaw 6 [1, 2, 900, 20, 0])).1).1 2).1 b q (0 + 1 + 1 + 4 + 0) hD4 hO4 (by omega) f 2 9 _ w5
 have hD5 := hD4.do' (rf := false) 2 9 (zaw 14 [1])
 have hO5 := hO4.do' (rf := false) hD4 2 9 (zaw 14 [1])
 have w6 : MsgW (zaw 12 [3]) := by unfold MsgW inW zaw; decide
 have d6 := fun G (x : DAd) b q f => zba W G x (doD false (zdC false (zbi (doD false (doD false (wayD 0) 2 1 (zaw 6 [0, 1, 50, 20, 0])).1 2 2 (zaw 6 [1, 2, 900, 20, 0])).1).1 2).1 2 9 (zaw 14 [1])).1 b q (0 + 1 + 1 + 4 + 0 + 1) hD5 hO5 (by omega) f 0 9 _ w6
 have hD6 := hD5.do' (rf := false) 0 9 (zaw 12 [3])
 have hO6 := hO5.do' (rf := false) hD5 0 9 (zaw 12 [3])
 obtain ⟨s4, h5, h6⟩ := zpn
 clear hD6 hO6 hD5 hO5 hD4 hO4 hD3 hO3 hD2 hO2 hD1 hO1 hD0 hO0
 generalize doD false (wayD 0) 2 1 (zaw 6 [0, 1, 50, 20, 0]) = r1 at *
 generalize doD false r1.1 2 2 (zaw 6 [1, 2, 900, 20, 0]) = r2 at *
 generalize zbi r2.1 = r3 at *
 generalize zdC false r3.1 2 = r4 at *
 generalize doD false r4.1 2 9 (zaw 14 [1]) = r5 at *
 generalize doD false r5.1 0 9 (zaw 12 [3]) = r6 at *
 refine zan Tryz.func7 rfl rfl Tryz.results7 Tryz.ntmps7 rfl rfl ?_
 all_goals repeat' (first | apply zae | apply zaa | apply zad | apply zab hT; iterate 4 exact rfl)
 all_goals (apply zaz; (iterate 7 exact rfl); exact zdn W _ 0 0 hb0 (.inl rfl); rintro _ _ ⟨A1, c1, A2, c2, rfl, rfl⟩)
 all_goals repeat' (first | apply zae | apply zaa | apply zaj | apply zah | apply zas | apply zaf | apply zad | apply zab hT; iterate 4 exact rfl | apply zaq; iterate 3 exact rfl | apply zau; iterate 2 exact rfl | apply zak; iterate 2 exact rfl | apply zag; iterate 2 exact rfl)
 all_goals (apply zaz; (iterate 7 exact rfl); exact zcq W _ 0 (.inl rfl) A1 A2 c1 c2 (by (repeat (first | exact mcs))) (by (repeat (first | exact mcs | apply mcm))); rintro _ _ ⟨x, b0, q0, rfl, rfl, f0⟩)
 all_goals repeat' (first | apply zae | apply zaa | apply zad | apply zab hT; iterate 4 exact rfl)
 all_goals (apply zao (cs := [.int .i64 0, .int .i64 1, .int .i64 50, .int .i64 20, .int .i64 0]) hT; (iterate 12 exact rfl); intro g1)
 all_goals repeat' (first | apply zae | apply zaa | apply zaj | apply zah | apply zas | apply zaf | apply zad | apply zab hT; iterate 4 exact rfl | apply zaq; iterate 3 exact rfl | apply zau; iterate 2 exact rfl | apply zak; iterate 2 exact rfl | apply zag; iterate 2 exact rfl)
 all_goals (apply zac; (iterate 7 exact rfl); exact ofL W _ g1 5 6 [0, 1, 50, 20, 0] (by (repeat (first | exact mcs))) rfl (Nat.le_of_ble_eq_true rfl))
 all_goals repeat' (first | apply zae | apply zaa | apply zaj | apply zah | apply zas | apply zaf | apply zad | apply zab hT; iterate 4 exact rfl | apply zaq; iterate 3 exact rfl | apply zau; iterate 2 exact rfl | apply zak; iterate 2 exact rfl | apply zag; iterate 2 exact rfl)
 all_goals (apply zaz; (iterate 7 exact rfl); exact zaB.perm (d1 _ (x) b0 q0 f0) (by (try unfold zai); (repeat (first | exact List.Perm.refl _ | (apply zaX; · (repeat (first | exact sel0 | apply selS ))) | (apply za0; · (repeat (first | exact zaP | apply zaT )))))); rintro _ _ ⟨y1, b1, q1, B1, e1, rfl, rfl, f1, v1⟩)
 all_goals repeat' (first | apply zae | apply zaa | apply zad | apply zab hT; iterate 4 exact rfl)
 all_goals (apply zao (cs := [.int .i64 1, .int .i64 2, .int .i64 900, .int .i64 20, .int .i64 0]) hT; (iterate 12 exact rfl); intro g2)
 all_goals repeat' (first | apply zae | apply zaa | apply zaj | apply zah | apply zas | apply zaf | apply zad | apply zab hT; iterate 4 exact rfl | apply zaq; iterate 3 exact rfl | apply zau; iterate 2 exact rfl | apply zak; iterate 2 exact rfl | apply zag; iterate 2 exact rfl)
 all_goals (apply zac; (iterate 7 exact rfl); exact ofL W _ g2 5 6 [1, 2, 900, 20, 0] (by (repeat (first | exact mcs))) rfl (Nat.le_of_ble_eq_true rfl))
 all_goals repeat' (first | apply zae | apply zaa | apply zaj | apply zah | apply zas | apply zaf | apply zad | apply zab hT; iterate 4 exact rfl | apply zaq; iterate 3 exact rfl | apply zau; iterate 2 exact rfl | apply zak; iterate 2 exact rfl | apply zag; iterate 2 exact rfl)
 all_goals (apply zaz; (iterate 7 exact rfl); exact zaB.perm (d2 _ (y1.at x.d) b1 q1 f1) (by (try unfold zai); (repeat (first | exact List.Perm.refl _ | (apply zaX; · (repeat (first | exact sel0 | apply selS ))) | (apply za0; · (repeat (first | exact zaP | apply zaT )))))); rintro _ _ ⟨y2, b2, q2, B2, e2, rfl, rfl, f2, v2⟩)
 all_goals repeat' (first | apply zae | apply zaa | apply zad | apply zab hT; iterate 4 exact rfl)
 all_goals (apply zaz; (iterate 7 exact rfl); exact zaB.perm (d3 _ (y2.at x.d) b2 q2 f2) (by (try unfold zai); (repeat (first | exact List.Perm.refl _ | (apply zaX; · (repeat (first | exact sel0 | apply selS ))) | (apply za0; · (repeat (first | exact zaP | apply zaT )))))); rintro _ _ ⟨y3, b3, q3, B3, e3, rfl, rfl, f3, v3⟩)
 all_goals repeat' (first | apply zae | apply zaa | apply zah | apply zad | apply zab hT; iterate 4 exact rfl | apply zag; iterate 2 exact rfl)
 all_goals (apply zaz; (iterate 7 exact rfl); exact zaB.perm (d4 _ (y3.at x.d) b3 q3 f3) (by (try unfold zai); (repeat (first | exact List.Perm.refl _ | (apply zaX; · (repeat (first | exact sel0 | apply selS ))) | (apply za0; · (repeat (first | exact zaP | apply zaT )))))); rintro _ _ ⟨y4, b4, q4, B4, e4, rfl, rfl, f4, v4⟩)
 all_goals repeat' (first | apply zae | apply zaa | apply zad | apply zab hT; iterate 4 exact rfl)
 all_goals (apply zao (cs := [.int .i64 1, .int .i64 20]) hT; (iterate 12 exact rfl); intro g3)
 all_goals repeat' (first | apply zae | apply zaa | apply zaj | apply zah | apply zas | apply zaf | apply zad | apply zab hT; iterate 4 exact rfl | apply zaq; iterate 3 exact rfl | apply zau; iterate 2 exact rfl | apply zak; iterate 2 exact rfl | apply zag; iterate 2 exact rfl)
 all_goals (apply zac; (iterate 7 exact rfl); exact ofL W _ g3 2 21 [1, 20] (by (repeat (first | exact mcs))) rfl (Nat.le_of_ble_eq_true rfl))
 all_goals repeat' (first | apply zae | apply zaa | apply zaj | apply zah | apply zas | apply zaf | apply zad | apply zab hT; iterate 4 exact rfl | apply zaq; iterate 3 exact rfl | apply zau; iterate 2 exact rfl | apply zak; iterate 2 exact rfl | apply zag; iterate 2 exact rfl)
 all_goals (apply zaO hT (cs := OutR.enc (outM 2 21 [1, 20])); iterate 4 exact rfl)
 all_goals repeat' (first | apply zae | apply zaa | apply zaj | apply zah | apply zas | apply zaf | apply zad | apply zab hT; iterate 4 exact rfl | apply zaq; iterate 3 exact rfl | apply zau; iterate 2 exact rfl | apply zak; iterate 2 exact rfl | apply zag; iterate 2 exact rfl)
 all_goals (apply zao (cs := [.int .i64 2, .int .i64 20]) hT; (iterate 12 exact rfl); intro g4)
 all_goals repeat' (first | apply zae | apply zaa | apply zaj | apply zah | apply zas | apply zaf | apply zad | apply zab hT; iterate 4 exact rfl | apply zaq; iterate 3 exact rfl | apply zau; iterate 2 exact rfl | apply zak; iterate 2 exact rfl | apply zag; iterate 2 exact rfl)
 all_goals (apply zac; (iterate 7 exact rfl); exact ofL W _ g4 2 21 [2, 20] (by (repeat (first | exact mcs))) rfl (Nat.le_of_ble_eq_true rfl))
 all_goals repeat' (first | apply zae | apply zaa | apply zaj | apply zah | apply zas | apply zaf | apply zad | apply zab hT; iterate 4 exact rfl | apply zaq; iterate 3 exact rfl | apply zau; iterate 2 exact rfl | apply zak; iterate 2 exact rfl | apply zag; iterate 2 exact rfl)
 all_goals (apply zaO hT (cs := OutR.enc (outM 2 21 [2, 20])); iterate 4 exact rfl)
 all_goals repeat' (first | apply zae | apply zaa | apply zaj | apply zah | apply zas | apply zaf | apply zad | apply zab hT; iterate 4 exact rfl | apply zaq; iterate 3 exact rfl | apply zau; iterate 2 exact rfl | apply zak; iterate 2 exact rfl | apply zag; iterate 2 exact rfl)
 all_goals (apply zao (cs := [outM 2 21 [1, 20], outM 2 21 [2, 20]].flatMap OutR.enc) hT; (iterate 12 exact rfl); intro gw)
 all_goals repeat' (first | apply zae | apply zaa | apply zad | apply zab hT; iterate 4 exact rfl)
 all_goals (apply zao (cs := [.int .i64 1]) hT; (iterate 12 exact rfl); intro g5)
 all_goals repeat' (first | apply zae | apply zaa | apply zaj | apply zah | apply zas | apply zaf | apply zad | apply zab hT; iterate 4 exact rfl | apply zaq; iterate 3 exact rfl | apply zau; iterate 2 exact rfl | apply zak; iterate 2 exact rfl | apply zag; iterate 2 exact rfl)
 all_goals (apply zac; (iterate 7 exact rfl); exact ofL W _ g5 1 14 [1] (by (repeat (first | exact mcs))) rfl (Nat.le_of_ble_eq_true rfl))
 all_goals repeat' (first | apply zae | apply zaa | apply zaj | apply zah | apply zas | apply zaf | apply zad | apply zab hT; iterate 4 exact rfl | apply zaq; iterate 3 exact rfl | apply zau; iterate 2 exact rfl | apply zak; iterate 2 exact rfl | apply zag; iterate 2 exact rfl)
 all_goals (apply zaz; (iterate 7 exact rfl); exact zaB.perm (d5 _ (y4.at x.d) b4 q4 f4) (by (try unfold zai); (repeat (first | exact List.Perm.refl _ | (apply zaX; · (repeat (first | exact sel0 | apply selS ))) | (apply za0; · (repeat (first | exact zaP | apply zaT )))))); rintro _ _ ⟨y5, b5, q5, B5, e5, rfl, rfl, f5, v5⟩)
 all_goals repeat' (first | apply zae | apply zaa | apply zaj | apply zah | apply zas | apply zaf | apply zad | apply zab hT; iterate 4 exact rfl | apply zaq; iterate 3 exact rfl | apply zau; iterate 2 exact rfl | apply zak; iterate 2 exact rfl | apply zag; iterate 2 exact rfl)
 all_goals (apply zac; (iterate 7 exact rfl); exact zbr W _ B5 e5 r5.2 h5 (v5.reads (by (repeat (first | exact mcs)))))
 all_goals repeat' (first | apply zae | apply zaa | apply zad | apply zab hT; iterate 4 exact rfl)
 all_goals (apply zao (cs := [.int .i64 3]) hT; (iterate 12 exact rfl); intro g6)
 all_goals repeat' (first | apply zae | apply zaa | apply zaj | apply zah | apply zas | apply zaf | apply zad | apply zab hT; iterate 4 exact rfl | apply zaq; iterate 3 exact rfl | apply zau; iterate 2 exact rfl | apply zak; iterate 2 exact rfl | apply zag; iterate 2 exact rfl)
 all_goals (apply zac; (iterate 7 exact rfl); exact ofL W _ g6 1 12 [3] (by (repeat (first | exact mcs))) rfl (Nat.le_of_ble_eq_true rfl))
 all_goals repeat' (first | apply zae | apply zaa | apply zaj | apply zah | apply zas | apply zaf | apply zad | apply zab hT; iterate 4 exact rfl | apply zaq; iterate 3 exact rfl | apply zau; iterate 2 exact rfl | apply zak; iterate 2 exact rfl | apply zag; iterate 2 exact rfl)
 all_goals (apply zaz; (iterate 7 exact rfl); exact zaB.perm (d6 _ (y5.at x.d) b5 q5 f5) (by (try unfold zai); (repeat (first | exact List.Perm.refl _ | (apply zaX; · (repeat (first | exact sel0 | apply selS ))) | (apply za0; · (repeat (first | exact zaP | apply zaT )))))); rintro _ _ ⟨y6, b6, q6, B6, e6, rfl, rfl, f6, v6⟩)
 all_goals repeat' (first | apply zae | apply zaa | apply zaj | apply zah | apply zas | apply zaf | apply zad | apply zab hT; iterate 4 exact rfl | apply zaq; iterate 3 exact rfl | apply zau; iterate 2 exact rfl | apply zak; iterate 2 exact rfl | apply zag; iterate 2 exact rfl)
 all_goals (apply zac; (iterate 7 exact rfl); exact zbr W _ B6 e6 r6.2 h6 (v6.reads (by (repeat (first | exact mcs)))))
 all_goals repeat' (first | apply zae | apply zaa | apply zad | apply zab hT; iterate 4 exact rfl | apply zak; iterate 2 exact rfl)
 all_goals (apply zac; (iterate 7 exact rfl); exact zg3 W _ B4 (some ⟨gw, 0, none⟩) e4 2 r4.2 [outM 2 21 [1, 20], outM 2 21 [2, 20]] s4 (v4.reads (by (repeat (first | exact mcs | apply mcm | apply mar)))) (zaJ.enc OutR.enc_len OutR.enc_one (by (repeat (first | exact mcs | apply mcm | apply mar))) rfl) (Nat.le_of_ble_eq_true rfl))
 all_goals repeat' (first | apply zab hT; iterate 4 exact rfl)
 all_goals (apply zaz; (iterate 7 exact rfl); exact zcW W _; rintro _ _ ⟨rfl, rfl⟩)
 all_goals repeat' (first | apply zaj | apply zad | apply zab hT; iterate 4 exact rfl)
 all_goals (apply ret1; exact rfl; exact ⟨[], zcv, rfl⟩)
theorem zpo : (zdC false (doD false (doD false (zbi (doD false (doD false (wayD 0) 2 1 (zaw 6 [0, 1, 50, 20, 0])).1 2 2 (zaw 6 [1, 2, 900, 20, 0])).1).1 2 3 (zaw 15 [1])).1 2 4 (zaw 10 [1, 100, 9])).1 2).2 = [outM 2 21 [1, 20], outM 2 21 [2, 20]] ∧ zbG (doD false (zdC false (doD false (doD false (zbi (doD false (doD false (wayD 0) 2 1 (zaw 6 [0, 1, 50, 20, 0])).1 2 2 (zaw 6 [1, 2, 900, 20, 0])).1).1 2 3 (zaw 15 [1])).1 2 4 (zaw 10 [1, 100, 9])).1 2).1 2 9 (zaw 14 [1])).2 = 11 ∧ zbG (doD false (doD false (zdC false (doD false (doD false (zbi (doD false (doD false (wayD 0) 2 1 (zaw 6 [0, 1, 50, 20, 0])).1 2 2 (zaw 6 [1, 2, 900, 20, 0])).1).1 2 3 (zaw 15 [1])).1 2 4 (zaw 10 [1, 100, 9])).1 2).1 2 9 (zaw 14 [1])).1 0 9 (zaw 12 [3])).2 = 12 := by decide +kernel
set_option maxHeartbeats 8000000 in
theorem zrg (W : World) : zaB Tryz.prog W 7 [.bool false] [] (fun v _ => v = .bool true) := by
 refine zaB.dropTo ?_
 obtain ⟨hD0, hO0⟩ := zdo (w := 0) (.inl rfl)
 have hb0 : bitI .and .i64 0 3 = 0 := by decide +kernel
 have w1 : MsgW (zaw 6 [0, 1, 50, 20, 0]) := by unfold MsgW inW zaw; decide
 have d1 := fun G (x : DAd) b q f => zba W G x (wayD 0) b q (0) hD0 hO0 (by omega) f 2 1 _ w1
 have hD1 := hD0.do' (rf := false) 2 1 (zaw 6 [0, 1, 50, 20, 0])
 have hO1 := hO0.do' (rf := false) hD0 2 1 (zaw 6 [0, 1, 50, 20, 0])
 have w2 : MsgW (zaw 6 [1, 2, 900, 20, 0]) := by unfold MsgW inW zaw; decide
 have d2 := fun G (x : DAd) b q f => zba W G x (doD false (wayD 0) 2 1 (zaw 6 [0, 1, 50, 20, 0])).1 b q (0 + 1) hD1 hO1 (by omega) f 2 2 _ w2
 have hD2 := hD1.do' (rf := false) 2 2 (zaw 6 [1, 2, 900, 20, 0])
 have hO2 := hO1.do' (rf := false) hD1 2 2 (zaw 6 [1, 2, 900, 20, 0])
 have sk2 := zfl hD2 hO2
 have d3 := fun G (x : DAd) b q f => zg1 W G x (doD false (doD false (wayD 0) 2 1 (zaw 6 [0, 1, 50, 20, 0])).1 2 2 (zaw 6 [1, 2, 900, 20, 0])).1 b q (0 + 1 + 1) hD2 hO2 (by omega) f
 have hD3 := sk2.1
 have hO3 := sk2.2
 have w4 : MsgW (zaw 15 [1]) := by unfold MsgW inW zaw; decide
 have d4 := fun G (x : DAd) b q f => zba W G x (zbi (doD false (doD false (wayD 0) 2 1 (zaw 6 [0, 1, 50, 20, 0])).1 2 2 (zaw 6 [1, 2, 900, 20, 0])).1).1 b q (0 + 1 + 1 + 4) hD3 hO3 (by omega) f 2 3 _ w4
 have hD4 := hD3.do' (rf := false) 2 3 (zaw 15 [1])
 have hO4 := hO3.do' (rf := false) hD3 2 3 (zaw 15 [1])
 have w5 : MsgW (zaw 10 [1, 100, 9]) := by unfold MsgW inW zaw; decide
 have d5 := fun G (x : DAd) b q f => zba W G x (doD false (zbi (doD false (doD false (wayD 0) 2 1 (zaw 6 [0, 1, 50, 20, 0])).1 2 2 (zaw 6 [1, 2, 900, 20, 0])).1).1 2 3 (zaw 15 [1])).1 b q (0 + 1 + 1 + 4 + 1) hD4 hO4 (by omega) f 2 4 _ w5
 have hD5 := hD4.do' (rf := false) 2 4 (zaw 10 [1, 100, 9])
 have hO5 := hO4.do' (rf := false) hD4 2 4 (zaw 10 [1, 100, 9])
 have d6 := fun G (x : DAd) b q f => zi8 W G x (doD false (doD false (zbi (doD false (doD false (wayD 0) 2 1 (zaw 6 [0, 1, 50, 20, 0])).1 2 2 (zaw 6 [1, 2, 900, 20, 0])).1).1 2 3 (zaw 15 [1])).1 2 4 (zaw 10 [1, 100, 9])).1 b q (0 + 1 + 1 + 4 + 1 + 1) hD5 (by omega) f 2
 have hD6 := hD5.gone (rf := false) 2
 have hO6 := hO5.gone (rf := false) 2
 have w7 : MsgW (zaw 14 [1]) := by unfold MsgW inW zaw; decide
 have d7 := fun G (x : DAd) b q f => zba W G x (zdC false (doD false (doD false (zbi (doD false (doD false (wayD 0) 2 1 (zaw 6 [0, 1, 50, 20, 0])).1 2 2 (zaw 6 [1, 2, 900, 20, 0])).1).1 2 3 (zaw 15 [1])).1 2 4 (zaw 10 [1, 100, 9])).1 2).1 b q (0 + 1 + 1 + 4 + 1 + 1 + 0) hD6 hO6 (by omega) f 2 9 _ w7
 have hD7 := hD6.do' (rf := false) 2 9 (zaw 14 [1])
 have hO7 := hO6.do' (rf := false) hD6 2 9 (zaw 14 [1])
 have w8 : MsgW (zaw 12 [3]) := by unfold MsgW inW zaw; decide
 have d8 := fun G (x : DAd) b q f => zba W G x (doD false (zdC false (doD false (doD false (zbi (doD false (doD false (wayD 0) 2 1 (zaw 6 [0, 1, 50, 20, 0])).1 2 2 (zaw 6 [1, 2, 900, 20, 0])).1).1 2 3 (zaw 15 [1])).1 2 4 (zaw 10 [1, 100, 9])).1 2).1 2 9 (zaw 14 [1])).1 b q (0 + 1 + 1 + 4 + 1 + 1 + 0 + 1) hD7 hO7 (by omega) f 0 9 _ w8
 have hD8 := hD7.do' (rf := false) 0 9 (zaw 12 [3])
 have hO8 := hO7.do' (rf := false) hD7 0 9 (zaw 12 [3])
 obtain ⟨s6, h7, h8⟩ := zpo
 clear hD8 hO8 hD7 hO7 hD6 hO6 hD5 hO5 hD4 hO4 hD3 hO3 hD2 hO2 hD1 hO1 hD0 hO0
 generalize doD false (wayD 0) 2 1 (zaw 6 [0, 1, 50, 20, 0]) = r1 at *
 generalize doD false r1.1 2 2 (zaw 6 [1, 2, 900, 20, 0]) = r2 at *
 generalize zbi r2.1 = r3 at *
 generalize doD false r3.1 2 3 (zaw 15 [1]) = r4 at *
 generalize doD false r4.1 2 4 (zaw 10 [1, 100, 9]) = r5 at *
 generalize zdC false r5.1 2 = r6 at *
 generalize doD false r6.1 2 9 (zaw 14 [1]) = r7 at *
 generalize doD false r7.1 0 9 (zaw 12 [3]) = r8 at *
 refine zan Tryz.func7 rfl rfl Tryz.results7 Tryz.ntmps7 rfl rfl ?_
 all_goals repeat' (first | apply zae | apply zaa | apply zad | apply zab hT; iterate 4 exact rfl)
 all_goals (apply zaz; (iterate 7 exact rfl); exact zdn W _ 0 0 hb0 (.inl rfl); rintro _ _ ⟨A1, c1, A2, c2, rfl, rfl⟩)
 all_goals repeat' (first | apply zae | apply zaa | apply zaj | apply zah | apply zas | apply zaf | apply zad | apply zab hT; iterate 4 exact rfl | apply zaq; iterate 3 exact rfl | apply zau; iterate 2 exact rfl | apply zak; iterate 2 exact rfl | apply zag; iterate 2 exact rfl)
 all_goals (apply zaz; (iterate 7 exact rfl); exact zcq W _ 0 (.inl rfl) A1 A2 c1 c2 (by (repeat (first | exact mcs))) (by (repeat (first | exact mcs | apply mcm))); rintro _ _ ⟨x, b0, q0, rfl, rfl, f0⟩)
 all_goals repeat' (first | apply zae | apply zaa | apply zad | apply zab hT; iterate 4 exact rfl)
 all_goals (apply zao (cs := [.int .i64 0, .int .i64 1, .int .i64 50, .int .i64 20, .int .i64 0]) hT; (iterate 12 exact rfl); intro g1)
 all_goals repeat' (first | apply zae | apply zaa | apply zaj | apply zah | apply zas | apply zaf | apply zad | apply zab hT; iterate 4 exact rfl | apply zaq; iterate 3 exact rfl | apply zau; iterate 2 exact rfl | apply zak; iterate 2 exact rfl | apply zag; iterate 2 exact rfl)
 all_goals (apply zac; (iterate 7 exact rfl); exact ofL W _ g1 5 6 [0, 1, 50, 20, 0] (by (repeat (first | exact mcs))) rfl (Nat.le_of_ble_eq_true rfl))
 all_goals repeat' (first | apply zae | apply zaa | apply zaj | apply zah | apply zas | apply zaf | apply zad | apply zab hT; iterate 4 exact rfl | apply zaq; iterate 3 exact rfl | apply zau; iterate 2 exact rfl | apply zak; iterate 2 exact rfl | apply zag; iterate 2 exact rfl)
 all_goals (apply zaz; (iterate 7 exact rfl); exact zaB.perm (d1 _ (x) b0 q0 f0) (by (try unfold zai); (repeat (first | exact List.Perm.refl _ | (apply zaX; · (repeat (first | exact sel0 | apply selS ))) | (apply za0; · (repeat (first | exact zaP | apply zaT )))))); rintro _ _ ⟨y1, b1, q1, B1, e1, rfl, rfl, f1, v1⟩)
 all_goals repeat' (first | apply zae | apply zaa | apply zad | apply zab hT; iterate 4 exact rfl)
 all_goals (apply zao (cs := [.int .i64 1, .int .i64 2, .int .i64 900, .int .i64 20, .int .i64 0]) hT; (iterate 12 exact rfl); intro g2)
 all_goals repeat' (first | apply zae | apply zaa | apply zaj | apply zah | apply zas | apply zaf | apply zad | apply zab hT; iterate 4 exact rfl | apply zaq; iterate 3 exact rfl | apply zau; iterate 2 exact rfl | apply zak; iterate 2 exact rfl | apply zag; iterate 2 exact rfl)
 all_goals (apply zac; (iterate 7 exact rfl); exact ofL W _ g2 5 6 [1, 2, 900, 20, 0] (by (repeat (first | exact mcs))) rfl (Nat.le_of_ble_eq_true rfl))
 all_goals repeat' (first | apply zae | apply zaa | apply zaj | apply zah | apply zas | apply zaf | apply zad | apply zab hT; iterate 4 exact rfl | apply zaq; iterate 3 exact rfl | apply zau; iterate 2 exact rfl | apply zak; iterate 2 exact rfl | apply zag; iterate 2 exact rfl)
 all_goals (apply zaz; (iterate 7 exact rfl); exact zaB.perm (d2 _ (y1.at x.d) b1 q1 f1) (by (try unfold zai); (repeat (first | exact List.Perm.refl _ | (apply zaX; · (repeat (first | exact sel0 | apply selS ))) | (apply za0; · (repeat (first | exact zaP | apply zaT )))))); rintro _ _ ⟨y2, b2, q2, B2, e2, rfl, rfl, f2, v2⟩)
 all_goals repeat' (first | apply zae | apply zaa | apply zad | apply zab hT; iterate 4 exact rfl)
 all_goals (apply zaz; (iterate 7 exact rfl); exact zaB.perm (d3 _ (y2.at x.d) b2 q2 f2) (by (try unfold zai); (repeat (first | exact List.Perm.refl _ | (apply zaX; · (repeat (first | exact sel0 | apply selS ))) | (apply za0; · (repeat (first | exact zaP | apply zaT )))))); rintro _ _ ⟨y3, b3, q3, B3, e3, rfl, rfl, f3, v3⟩)
 all_goals repeat' (first | apply zae | apply zaa | apply zad | apply zab hT; iterate 4 exact rfl | apply zak; iterate 2 exact rfl)
 all_goals (apply zao (cs := [.int .i64 1]) hT; (iterate 12 exact rfl); intro g3)
 all_goals repeat' (first | apply zae | apply zaa | apply zaj | apply zah | apply zas | apply zaf | apply zad | apply zab hT; iterate 4 exact rfl | apply zaq; iterate 3 exact rfl | apply zau; iterate 2 exact rfl | apply zak; iterate 2 exact rfl | apply zag; iterate 2 exact rfl)
 all_goals (apply zac; (iterate 7 exact rfl); exact ofL W _ g3 1 15 [1] (by (repeat (first | exact mcs))) rfl (Nat.le_of_ble_eq_true rfl))
 all_goals repeat' (first | apply zae | apply zaa | apply zaj | apply zah | apply zas | apply zaf | apply zad | apply zab hT; iterate 4 exact rfl | apply zaq; iterate 3 exact rfl | apply zau; iterate 2 exact rfl | apply zak; iterate 2 exact rfl | apply zag; iterate 2 exact rfl)
 all_goals (apply zaz; (iterate 7 exact rfl); exact zaB.perm (d4 _ (y3.at x.d) b3 q3 f3) (by (try unfold zai); (repeat (first | exact List.Perm.refl _ | (apply zaX; · (repeat (first | exact sel0 | apply selS ))) | (apply za0; · (repeat (first | exact zaP | apply zaT )))))); rintro _ _ ⟨y4, b4, q4, B4, e4, rfl, rfl, f4, v4⟩)
 all_goals repeat' (first | apply zaa | apply zad | apply zab hT; iterate 4 exact rfl)
 all_goals (apply zao (cs := [.int .i64 1, .int .i64 100, .int .i64 9]) hT; (iterate 12 exact rfl); intro g4)
 all_goals repeat' (first | apply zae | apply zaa | apply zaj | apply zah | apply zas | apply zaf | apply zad | apply zab hT; iterate 4 exact rfl | apply zaq; iterate 3 exact rfl | apply zau; iterate 2 exact rfl | apply zak; iterate 2 exact rfl | apply zag; iterate 2 exact rfl)
 all_goals (apply zac; (iterate 7 exact rfl); exact ofL W _ g4 3 10 [1, 100, 9] (by (repeat (first | exact mcs))) rfl (Nat.le_of_ble_eq_true rfl))
 all_goals repeat' (first | apply zae | apply zaa | apply zaj | apply zah | apply zas | apply zaf | apply zad | apply zab hT; iterate 4 exact rfl | apply zaq; iterate 3 exact rfl | apply zau; iterate 2 exact rfl | apply zak; iterate 2 exact rfl | apply zag; iterate 2 exact rfl)
 all_goals (apply zaz; (iterate 7 exact rfl); exact zaB.perm (d5 _ (y4.at x.d) b4 q4 f4) (by (try unfold zai); (repeat (first | exact List.Perm.refl _ | (apply zaX; · (repeat (first | exact sel0 | apply selS ))) | (apply za0; · (repeat (first | exact zaP | apply zaT )))))); rintro _ _ ⟨y5, b5, q5, B5, e5, rfl, rfl, f5, v5⟩)
 all_goals repeat' (first | apply zae | apply zaa | apply zad | apply zab hT; iterate 4 exact rfl)
 all_goals (apply zaz; (iterate 7 exact rfl); exact zaB.perm (d6 _ (y5.at x.d) b5 q5 f5) (by (try unfold zai); (repeat (first | exact List.Perm.refl _ | (apply zaX; · (repeat (first | exact sel0 | apply selS ))) | (apply za0; · (repeat (first | exact zaP | apply zaT )))))); rintro _ _ ⟨y6, b6, q6, B6, e6, rfl, rfl, f6, v6⟩)
 all_goals repeat' (first | apply zae | apply zaa | apply zad | apply zab hT; iterate 4 exact rfl)
 all_goals (apply zao (cs := [.int .i64 1, .int .i64 20]) hT; (iterate 12 exact rfl); intro g5)
 all_goals repeat' (first | apply zae | apply zaa | apply zaj | apply zah | apply zas | apply zaf | apply zad | apply zab hT; iterate 4 exact rfl | apply zaq; iterate 3 exact rfl | apply zau; iterate 2 exact rfl | apply zak; iterate 2 exact rfl | apply zag; iterate 2 exact rfl)
 all_goals (apply zac; (iterate 7 exact rfl); exact ofL W _ g5 2 21 [1, 20] (by (repeat (first | exact mcs))) rfl (Nat.le_of_ble_eq_true rfl))
 all_goals repeat' (first | apply zae | apply zaa | apply zaj | apply zah | apply zas | apply zaf | apply zad | apply zab hT; iterate 4 exact rfl | apply zaq; iterate 3 exact rfl | apply zau; iterate 2 exact rfl | apply zak; iterate 2 exact rfl | apply zag; iterate 2 exact rfl)
 all_goals (apply zaO hT (cs := OutR.enc (outM 2 21 [1, 20])); iterate 4 exact rfl)
 all_goals repeat' (first | apply zae | apply zaa | apply zaj | apply zah | apply zas | apply zaf | apply zad | apply zab hT; iterate 4 exact rfl | apply zaq; iterate 3 exact rfl | apply zau; iterate 2 exact rfl | apply zak; iterate 2 exact rfl | apply zag; iterate 2 exact rfl)
 all_goals (apply zao (cs := [.int .i64 2, .int .i64 20]) hT; (iterate 12 exact rfl); intro g6)
 all_goals repeat' (first | apply zae | apply zaa | apply zaj | apply zah | apply zas | apply zaf | apply zad | apply zab hT; iterate 4 exact rfl | apply zaq; iterate 3 exact rfl | apply zau; iterate 2 exact rfl | apply zak; iterate 2 exact rfl | apply zag; iterate 2 exact rfl)
 all_goals (apply zac; (iterate 7 exact rfl); exact ofL W _ g6 2 21 [2, 20] (by (repeat (first | exact mcs))) rfl (Nat.le_of_ble_eq_true rfl))
 all_goals repeat' (first | apply zae | apply zaa | apply zaj | apply zah | apply zas | apply zaf | apply zad | apply zab hT; iterate 4 exact rfl | apply zaq; iterate 3 exact rfl | apply zau; iterate 2 exact rfl | apply zak; iterate 2 exact rfl | apply zag; iterate 2 exact rfl)
 all_goals (apply zaO hT (cs := OutR.enc (outM 2 21 [2, 20])); iterate 4 exact rfl)
 all_goals repeat' (first | apply zae | apply zaa | apply zaj | apply zah | apply zas | apply zaf | apply zad | apply zab hT; iterate 4 exact rfl | apply zaq; iterate 3 exact rfl | apply zau; iterate 2 exact rfl | apply zak; iterate 2 exact rfl | apply zag; iterate 2 exact rfl)
 all_goals (apply zao (cs := [outM 2 21 [1, 20], outM 2 21 [2, 20]].flatMap OutR.enc) hT; (iterate 12 exact rfl); intro gw)
 all_goals repeat' (first | apply zae | apply zaa | apply zad | apply zab hT; iterate 4 exact rfl)
 all_goals (apply zao (cs := [.int .i64 1]) hT; (iterate 12 exact rfl); intro g7)
 all_goals repeat' (first | apply zae | apply zaa | apply zaj | apply zah | apply zas | apply zaf | apply zad | apply zab hT; iterate 4 exact rfl | apply zaq; iterate 3 exact rfl | apply zau; iterate 2 exact rfl | apply zak; iterate 2 exact rfl | apply zag; iterate 2 exact rfl)
 all_goals (apply zac; (iterate 7 exact rfl); exact ofL W _ g7 1 14 [1] (by (repeat (first | exact mcs))) rfl (Nat.le_of_ble_eq_true rfl))
 all_goals repeat' (first | apply zae | apply zaa | apply zaj | apply zah | apply zas | apply zaf | apply zad | apply zab hT; iterate 4 exact rfl | apply zaq; iterate 3 exact rfl | apply zau; iterate 2 exact rfl | apply zak; iterate 2 exact rfl | apply zag; iterate 2 exact rfl)
 all_goals (apply zaz; (iterate 7 exact rfl); exact zaB.perm (d7 _ (y6.at x.d) b6 q6 f6) (by (try unfold zai); (repeat (first | exact List.Perm.refl _ | (apply zaX; · (repeat (first | exact sel0 | apply selS ))) | (apply za0; · (repeat (first | exact zaP | apply zaT )))))); rintro _ _ ⟨y7, b7, q7, B7, e7, rfl, rfl, f7, v7⟩)
 all_goals repeat' (first | apply zae | apply zaa | apply zaj | apply zah | apply zas | apply zaf | apply zad | apply zab hT; iterate 4 exact rfl | apply zaq; iterate 3 exact rfl | apply zau; iterate 2 exact rfl | apply zak; iterate 2 exact rfl | apply zag; iterate 2 exact rfl)
 all_goals (apply zac; (iterate 7 exact rfl); exact zbr W _ B7 e7 r7.2 h7 (v7.reads (by (repeat (first | exact mcs)))))
 all_goals repeat' (first | apply zae | apply zaa | apply zad | apply zab hT; iterate 4 exact rfl)
 all_goals (apply zao (cs := [.int .i64 3]) hT; (iterate 12 exact rfl); intro g8)
 all_goals repeat' (first | apply zae | apply zaa | apply zaj | apply zah | apply zas | apply zaf | apply zad | apply zab hT; iterate 4 exact rfl | apply zaq; iterate 3 exact rfl | apply zau; iterate 2 exact rfl | apply zak; iterate 2 exact rfl | apply zag; iterate 2 exact rfl)
 all_goals (apply zac; (iterate 7 exact rfl); exact ofL W _ g8 1 12 [3] (by (repeat (first | exact mcs))) rfl (Nat.le_of_ble_eq_true rfl))
 all_goals repeat' (first | apply zae | apply zaa | apply zaj | apply zah | apply zas | apply zaf | apply zad | apply zab hT; iterate 4 exact rfl | apply zaq; iterate 3 exact rfl | apply zau; iterate 2 exact rfl | apply zak; iterate 2 exact rfl | apply zag; iterate 2 exact rfl)
 all_goals (apply zaz; (iterate 7 exact rfl); exact zaB.perm (d8 _ (y7.at x.d) b7 q7 f7) (by (try unfold zai); (repeat (first | exact List.Perm.refl _ | (apply zaX; · (repeat (first | exact sel0 | apply selS ))) | (apply za0; · (repeat (first | exact zaP | apply zaT )))))); rintro _ _ ⟨y8, b8, q8, B8, e8, rfl, rfl, f8, v8⟩)
 all_goals repeat' (first | apply zae | apply zaa | apply zaj | apply zah | apply zas | apply zaf | apply zad | apply zab hT; iterate 4 exact rfl | apply zaq; iterate 3 exact rfl | apply zau; iterate 2 exact rfl | apply zak; iterate 2 exact rfl | apply zag; iterate 2 exact rfl)
 all_goals (apply zac; (iterate 7 exact rfl); exact zbr W _ B8 e8 r8.2 h8 (v8.reads (by (repeat (first | exact mcs)))))
 all_goals repeat' (first | apply zae | apply zaa | apply zah | apply zad | apply zab hT; iterate 4 exact rfl | apply zag; iterate 2 exact rfl)
 all_goals (apply zac; (iterate 7 exact rfl); exact zg3 W _ B6 (some ⟨gw, 0, none⟩) e6 2 r6.2 [outM 2 21 [1, 20], outM 2 21 [2, 20]] s6 (v6.reads (by (repeat (first | exact mcs | apply mcm | apply mar)))) (zaJ.enc OutR.enc_len OutR.enc_one (by (repeat (first | exact mcs | apply mcm | apply mar))) rfl) (Nat.le_of_ble_eq_true rfl))
 all_goals repeat' (first | apply zab hT; iterate 4 exact rfl)
 all_goals (apply zaz; (iterate 7 exact rfl); exact zcW W _; rintro _ _ ⟨rfl, rfl⟩)
 all_goals repeat' (first | apply zaj | apply zad | apply zab hT; iterate 4 exact rfl)
 all_goals (apply ret1; exact rfl; exact ⟨[], zcv, rfl⟩)
theorem zon (W : World) (look : Bool) : zaB Tryz.prog W 7 [.bool look] [] (fun v _ => v = .bool true) := by
 cases look
 ·exact zrg W
 ·exact zrf W
end Go.Proofs.YtakilgkpfjhfdaaGreat
namespace Go.Proofs.YtakilgkpfjhfdaaGreat
namespace deskGone
open Go Go.Sl Go.ChangeShapes Go.WideShapes Go.ChangeAt Go.RowKit
theorem own : ownKnob Tryz.prog.godebug = none := by kernel_rfl
theorem zdd : laidOutB Tryz.prog = true := by kernel_rfl
set_option maxRecDepth 100000 in
theorem zeg (os : Os) (started : os.Started) (H : Type) (enc : TypeId × Value → H) :
 ReturnsInHanded {} Tryz.checked os 7 .any (Rows.deskGoneSpec.pre6 enc Tryz.prog Tryz.f7 Rows.deskGoneRow.domain false) (Rows.deskGoneSpec.post enc Tryz.prog Tryz.f7 false true false false) := by
 refine returnsInHanded_of_change (C := Tryz.checked) own started (by kernel_rfl) Tryz.func7
  (ChangeSpec.witness6 (enc := enc) (C := Tryz.checked) false ⟨#[], #[.bool false], []⟩ 8 (by kernel_rfl) (by kernel_rfl) (by kernel_rfl) (by kernel_rfl)) ?_
 intro W base args ds gs before hval0 hW hcnd _
 have hval : ∀ (j : Nat) t v, Tryz.f7.params[j]? = some t → args[j]? = some v → Value.okWide Tryz.prog W .any base t v := hval0
 have hW' := hW
 obtain ⟨p, q, hA0, hV, rfl, hfz, hnd⟩ := hW
 have hA : DataW.TrodAll enc Tryz.prog W 0 (fun _ => true) true Tryz.f7.params.toList args.toList ds p := hA0
 obtain ⟨rfl, rfl⟩ := trodVars_none hV
 simp only [List.append_nil] at hW'
 have hA1 := hA
 rw [Tryz.params7] at hA1 hval
 obtain ⟨v0, vs0, d0, ds0, p0, q0, hargs, rfl, rfl, h0, r0⟩ := trodAll_cons hA1
 obtain ⟨rfl, rfl, rfl⟩ := trodAll_nil r0
 obtain rfl : args = #[v0] := by cases args; simp_all
 obtain ⟨a0, rfl, _, _⟩ := open_bool Tryz.underlying4 (hval 0 4 v0 rfl rfl) h0
 refine (zaB.row (zon W a0) (fun _ _ h => h)).mono fun e W' ⟨he, hb⟩ => ?_
 subst he
 exact ⟨_, rfl, zen hW' hA zdd (by kernel_rfl) rfl rfl Tryz.underlying4 rfl rfl rfl hb⟩
theorem zg2 : Tryz.prog.funcNamed Rows.deskGoneRow.func = some 7 := by kernel_rfl
set_option maxRecDepth 100000 in
set_option maxHeartbeats 8000000 in
theorem zeh : joinedFacts Tryz.prog 7 Tryz.f7 Rows.deskGoneSpec Rows.deskGoneRow = true := by
 unfold joinedFacts
 simp only [Bool.and_eq_true]
 repeat' apply And.intro
 all_goals decide +kernel
theorem inst : Tryz.f7.isInstance Tryz.prog Rows.deskGoneRow.origin Rows.deskGoneRow.targs := odt (by kernel_rfl)
theorem over : Rows.deskGoneRow.holds Tryz.pinned (OpenSpec.ofChange Rows.deskGoneSpec) :=
 OpenClaim.holds_of_wide 7 Tryz.f7 rfl rfl rfl rfl rfl rfl rfl ⟨rfl, rfl, rfl, rfl, rfl⟩ rfl rfl rfl rfl rfl zg2 Tryz.func7 zeh
  inst (by unfold Func.isWrapper; first | (rw [if_pos (by decide +kernel)]; kernel_rfl) | (rw [if_neg (by decide +kernel)]; exact ⟨rfl, rfl⟩))
  (fun os started H enc _ => zeg os started H enc)
end deskGone
theorem deskGone_holds : Rows.DeskGoneSaid := deskGone.over
#print axioms deskGone_holds
end Go.Proofs.YtakilgkpfjhfdaaGreat
namespace Go.Proofs.YtakilgkpfjhfdaaGreat
open Go Go.Sl
attribute [local irreducible] AW ES EP Ld RetQ
set_option maxRecDepth 100000
def tk (s : Dk) : Dk := (zcB false s).1
end Go.Proofs.YtakilgkpfjhfdaaGreat
