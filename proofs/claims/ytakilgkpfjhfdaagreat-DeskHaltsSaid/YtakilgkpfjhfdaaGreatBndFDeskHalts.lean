/- The statements' walks, and what they stand on, joined into few texts: the last of DeskHalts. Conditions stand in each statement. -/
import Derived.Test.YtakilgkpfjhfdaaGreatBndF6
set_option linter.all false
namespace Go.Proofs.YtakilgkpfjhfdaaGreat
open Go Go.Sl
attribute [local irreducible] AW ES EP Ld RetQ
set_option maxRecDepth 100000
theorem zbr (W : World) (h : List zax) (A : Option Addr) (c : Nat) (o : List OutR) {n : Int} (he : zbG o = n) (hr : zaJ W h A o.length 8 (o.flatMap OutR.enc)) : zaL Tryz.prog W 16 [.slice A o.length c] h (.int .i64 n) := he ▸ zhM W h A c o hr
theorem zoo : zbG (doD false (zbi (doD false (wayD 0) 1 1 (zaw 6 [0, 2, 200, 10, 0])).1).1 4 1 (zaw 17 [0, 1])).2 = 0 ∧ zbG (doD false (doD false (zbi (doD false (wayD 0) 1 1 (zaw 6 [0, 2, 200, 10, 0])).1).1 4 1 (zaw 17 [0, 1])).1 0 5 (zaw 6 [0, 1, 50, 10, 0])).2 = 6 ∧ zbG (doD false (doD false (doD false (zbi (doD false (wayD 0) 1 1 (zaw 6 [0, 2, 200, 10, 0])).1).1 4 1 (zaw 17 [0, 1])).1 0 5 (zaw 6 [0, 1, 50, 10, 0])).1 0 6 (zaw 9 [0, 1, 10, 4, 9])).2 = 6 ∧ zbG (doD false (doD false (doD false (doD false (zbi (doD false (wayD 0) 1 1 (zaw 6 [0, 2, 200, 10, 0])).1).1 4 1 (zaw 17 [0, 1])).1 0 5 (zaw 6 [0, 1, 50, 10, 0])).1 0 6 (zaw 9 [0, 1, 10, 4, 9])).1 1 7 (zaw 7 [1])).2 = 0 ∧ zbG (doD false (doD false (doD false (doD false (doD false (zbi (doD false (wayD 0) 1 1 (zaw 6 [0, 2, 200, 10, 0])).1).1 4 1 (zaw 17 [0, 1])).1 0 5 (zaw 6 [0, 1, 50, 10, 0])).1 0 6 (zaw 9 [0, 1, 10, 4, 9])).1 1 7 (zaw 7 [1])).1 2 8 (zaw 14 [1])).2 = 6 ∧ zbG (doD false (doD false (doD false (doD false (doD false (doD false (zbi (doD false (wayD 0) 1 1 (zaw 6 [0, 2, 200, 10, 0])).1).1 4 1 (zaw 17 [0, 1])).1 0 5 (zaw 6 [0, 1, 50, 10, 0])).1 0 6 (zaw 9 [0, 1, 10, 4, 9])).1 1 7 (zaw 7 [1])).1 2 8 (zaw 14 [1])).1 0 9 (zaw 6 [1, 1, 50, 10, 0])).2 = 0 := by decide +kernel
set_option maxHeartbeats 8000000 in
theorem zpU (W : World) : zaB Tryz.prog W 4 [.bool true] [] (fun v _ => v = .bool true) := by
 refine zaB.dropTo ?_
 obtain ⟨hD0, hO0⟩ := zdo (w := 0) (.inl rfl)
 have hb0 : bitI .and .i64 0 3 = 0 := by decide +kernel
 have w1 : MsgW (zaw 6 [0, 2, 200, 10, 0]) := by unfold MsgW inW zaw; decide
 have d1 := fun G (x : DAd) b q f => zba W G x (wayD 0) b q (0) hD0 hO0 (by omega) f 1 1 _ w1
 have hD1 := hD0.do' (rf := false) 1 1 (zaw 6 [0, 2, 200, 10, 0])
 have hO1 := hO0.do' (rf := false) hD0 1 1 (zaw 6 [0, 2, 200, 10, 0])
 have sk1 := zfl hD1 hO1
 have d2 := fun G (x : DAd) b q f => zg1 W G x (doD false (wayD 0) 1 1 (zaw 6 [0, 2, 200, 10, 0])).1 b q (0 + 1) hD1 hO1 (by omega) f
 have hD2 := sk1.1
 have hO2 := sk1.2
 have w3 : MsgW (zaw 17 [0, 1]) := by unfold MsgW inW zaw; decide
 have d3 := fun G (x : DAd) b q f => zba W G x (zbi (doD false (wayD 0) 1 1 (zaw 6 [0, 2, 200, 10, 0])).1).1 b q (0 + 1 + 4) hD2 hO2 (by omega) f 4 1 _ w3
 have hD3 := hD2.do' (rf := false) 4 1 (zaw 17 [0, 1])
 have hO3 := hO2.do' (rf := false) hD2 4 1 (zaw 17 [0, 1])
 have w4 : MsgW (zaw 6 [0, 1, 50, 10, 0]) := by unfold MsgW inW zaw; decide
 have d4 := fun G (x : DAd) b q f => zba W G x (doD false (zbi (doD false (wayD 0) 1 1 (zaw 6 [0, 2, 200, 10, 0])).1).1 4 1 (zaw 17 [0, 1])).1 b q (0 + 1 + 4 + 1) hD3 hO3 (by omega) f 0 5 _ w4
 have hD4 := hD3.do' (rf := false) 0 5 (zaw 6 [0, 1, 50, 10, 0])
 have hO4 := hO3.do' (rf := false) hD3 0 5 (zaw 6 [0, 1, 50, 10, 0])
 have w5 : MsgW (zaw 9 [0, 1, 10, 4, 9]) := by unfold MsgW inW zaw; decide
 have d5 := fun G (x : DAd) b q f => zba W G x (doD false (doD false (zbi (doD false (wayD 0) 1 1 (zaw 6 [0, 2, 200, 10, 0])).1).1 4 1 (zaw 17 [0, 1])).1 0 5 (zaw 6 [0, 1, 50, 10, 0])).1 b q (0 + 1 + 4 + 1 + 1) hD4 hO4 (by omega) f 0 6 _ w5
 have hD5 := hD4.do' (rf := false) 0 6 (zaw 9 [0, 1, 10, 4, 9])
 have hO5 := hO4.do' (rf := false) hD4 0 6 (zaw 9 [0, 1, 10, 4, 9])
 have w6 : MsgW (zaw 7 [1]) := by unfold MsgW inW zaw; decide
 have d6 := fun G (x : DAd) b q f => zba W G x (doD false (doD false (doD false (zbi (doD false (wayD 0) 1 1 (zaw 6 [0, 2, 200, 10, 0])).1).1 4 1 (zaw 17 [0, 1])).1 0 5 (zaw 6 [0, 1, 50, 10, 0])).1 0 6 (zaw 9 [0, 1, 10, 4, 9])).1 b q (0 + 1 + 4 + 1 + 1 + 1) hD5 hO5 (by omega) f 1 7 _ w6
 have hD6 := hD5.do' (rf := false) 1 7 (zaw 7 [1])
 have hO6 := hO5.do' (rf := false) hD5 1 7 (zaw 7 [1])
 have w7 : MsgW (zaw 14 [1]) := by unfold MsgW inW zaw; decide
 have d7 := fun G (x : DAd) b q f => zba W G x (doD false (doD false (doD false (doD false (zbi (doD false (wayD 0) 1 1 (zaw 6 [0, 2, 200, 10, 0])).1).1 4 1 (zaw 17 [0, 1])).1 0 5 (zaw 6 [0, 1, 50, 10, 0])).1 0 6 (zaw 9 [0, 1, 10, 4, 9])).1 1 7 (zaw 7 [1])).1 b q (0 + 1 + 4 + 1 + 1 + 1 + 1) hD6 hO6 (by omega) f 2 8 _ w7
 have hD7 := hD6.do' (rf := false) 2 8 (zaw 14 [1])
 have hO7 := hO6.do' (rf := false) hD6 2 8 (zaw 14 [1])
 have w8 : MsgW (zaw 6 [1, 1, 50, 10, 0]) := by unfold MsgW inW zaw; decide
 have d8 := fun G (x : DAd) b q f => zba W G x (doD false (doD false (doD false (doD false (doD false (zbi (doD false (wayD 0) 1 1 (zaw 6 [0, 2, 200, 10, 0])).1).1 4 1 (zaw 17 [0, 1])).1 0 5 (zaw 6 [0, 1, 50, 10, 0])).1 0 6 (zaw 9 [0, 1, 10, 4, 9])).1 1 7 (zaw 7 [1])).1 2 8 (zaw 14 [1])).1 b q (0 + 1 + 4 + 1 + 1 + 1 + 1 + 1) hD7 hO7 (by omega) f 0 9 _ w8
 have hD8 := hD7.do' (rf := false) 0 9 (zaw 6 [1, 1, 50, 10, 0])
 have hO8 := hO7.do' (rf := false) hD7 0 9 (zaw 6 [1, 1, 50, 10, 0])
 obtain ⟨h3, h4, h5, h6, h7, h8⟩ := zoo
 clear hD8 hO8 hD7 hO7 hD6 hO6 hD5 hO5 hD4 hO4 hD3 hO3 hD2 hO2 hD1 hO1 hD0 hO0
 generalize doD false (wayD 0) 1 1 (zaw 6 [0, 2, 200, 10, 0]) = r1 at *
 generalize zbi r1.1 = r2 at *
 generalize doD false r2.1 4 1 (zaw 17 [0, 1]) = r3 at *
 generalize doD false r3.1 0 5 (zaw 6 [0, 1, 50, 10, 0]) = r4 at *
 generalize doD false r4.1 0 6 (zaw 9 [0, 1, 10, 4, 9]) = r5 at *
 generalize doD false r5.1 1 7 (zaw 7 [1]) = r6 at *
 generalize doD false r6.1 2 8 (zaw 14 [1]) = r7 at *
 generalize doD false r7.1 0 9 (zaw 6 [1, 1, 50, 10, 0]) = r8 at *
 refine zan Tryz.func4 rfl rfl Tryz.results4 Tryz.ntmps4 rfl rfl ?_
 repeat' (first | apply zae | apply zaa | apply zad | apply zab hT; iterate 4 exact rfl)
 (apply zaz; (iterate 7 exact rfl); exact zdn W _ 0 0 hb0 (.inl rfl); rintro _ _ ⟨A1, c1, A2, c2, rfl, rfl⟩)
 repeat' (first | apply zae | apply zaa | apply zaj | apply zah | apply zas | apply zaf | apply zad | apply zab hT; iterate 4 exact rfl | apply zaq; iterate 3 exact rfl | apply zau; iterate 2 exact rfl | apply zak; iterate 2 exact rfl | apply zag; iterate 2 exact rfl)
 (apply zaz; (iterate 7 exact rfl); exact zcq W _ 0 (.inl rfl) A1 A2 c1 c2 (by (repeat (first | exact mcs))) (by (repeat (first | exact mcs | apply mcm))); rintro _ _ ⟨x, b0, q0, rfl, rfl, f0⟩)
 repeat' (first | apply zae | apply zaa | apply zad | apply zab hT; iterate 4 exact rfl)
 (apply zao (cs := [.int .i64 0, .int .i64 2, .int .i64 200, .int .i64 10, .int .i64 0]) hT; (iterate 12 exact rfl); intro g1)
 repeat' (first | apply zae | apply zaa | apply zaj | apply zah | apply zas | apply zaf | apply zad | apply zab hT; iterate 4 exact rfl | apply zaq; iterate 3 exact rfl | apply zau; iterate 2 exact rfl | apply zak; iterate 2 exact rfl | apply zag; iterate 2 exact rfl)
 (apply zac; (iterate 7 exact rfl); exact ofL W _ g1 5 6 [0, 2, 200, 10, 0] (by (repeat (first | exact mcs))) rfl (Nat.le_of_ble_eq_true rfl))
 repeat' (first | apply zae | apply zaa | apply zaj | apply zah | apply zas | apply zaf | apply zad | apply zab hT; iterate 4 exact rfl | apply zaq; iterate 3 exact rfl | apply zau; iterate 2 exact rfl | apply zak; iterate 2 exact rfl | apply zag; iterate 2 exact rfl)
 (apply zaz; (iterate 7 exact rfl); exact zaB.perm (d1 _ (x) b0 q0 f0) (by (try unfold zai); (repeat (first | exact List.Perm.refl _ | (apply zaX; · (repeat (first | exact sel0 | apply selS ))) | (apply za0; · (repeat (first | exact zaP | apply zaT )))))); rintro _ _ ⟨y1, b1, q1, B1, e1, rfl, rfl, f1, v1⟩)
 repeat' (first | apply zae | apply zaa | apply zad | apply zab hT; iterate 4 exact rfl)
 (apply zaz; (iterate 7 exact rfl); exact zaB.perm (d2 _ (y1.at x.d) b1 q1 f1) (by (try unfold zai); (repeat (first | exact List.Perm.refl _ | (apply zaX; · (repeat (first | exact sel0 | apply selS ))) | (apply za0; · (repeat (first | exact zaP | apply zaT )))))); rintro _ _ ⟨y2, b2, q2, B2, e2, rfl, rfl, f2, v2⟩)
 repeat' (first | apply zae | apply zaa | apply zad | apply zab hT; iterate 4 exact rfl | apply zak; iterate 2 exact rfl)
 (apply zao (cs := [.int .i64 0, .int .i64 1]) hT; (iterate 12 exact rfl); intro g2)
 repeat' (first | apply zae | apply zaa | apply zaj | apply zah | apply zas | apply zaf | apply zad | apply zab hT; iterate 4 exact rfl | apply zaq; iterate 3 exact rfl | apply zau; iterate 2 exact rfl | apply zak; iterate 2 exact rfl | apply zag; iterate 2 exact rfl)
 (apply zac; (iterate 7 exact rfl); exact ofL W _ g2 2 17 [0, 1] (by (repeat (first | exact mcs))) rfl (Nat.le_of_ble_eq_true rfl))
 repeat' (first | apply zae | apply zaa | apply zaj | apply zah | apply zas | apply zaf | apply zad | apply zab hT; iterate 4 exact rfl | apply zaq; iterate 3 exact rfl | apply zau; iterate 2 exact rfl | apply zak; iterate 2 exact rfl | apply zag; iterate 2 exact rfl)
 (apply zaz; (iterate 7 exact rfl); exact zaB.perm (d3 _ (y2.at x.d) b2 q2 f2) (by (try unfold zai); (repeat (first | exact List.Perm.refl _ | (apply zaX; · (repeat (first | exact sel0 | apply selS ))) | (apply za0; · (repeat (first | exact zaP | apply zaT )))))); rintro _ _ ⟨y3, b3, q3, B3, e3, rfl, rfl, f3, v3⟩)
 repeat' (first | apply zae | apply zaa | apply zaj | apply zah | apply zas | apply zaf | apply zad | apply zab hT; iterate 4 exact rfl | apply zaq; iterate 3 exact rfl | apply zau; iterate 2 exact rfl | apply zak; iterate 2 exact rfl | apply zag; iterate 2 exact rfl)
 (apply zac; (iterate 7 exact rfl); exact zbr W _ B3 e3 r3.2 h3 (v3.reads (by (repeat (first | exact mcs)))))
 repeat' (first | apply zae | apply zaa | apply zah | apply zad | apply zab hT; iterate 4 exact rfl | apply zag; iterate 2 exact rfl)
 (apply zao (cs := [.int .i64 0, .int .i64 1, .int .i64 50, .int .i64 10, .int .i64 0]) hT; (iterate 12 exact rfl); intro g3)
 repeat' (first | apply zae | apply zaa | apply zaj | apply zah | apply zas | apply zaf | apply zad | apply zab hT; iterate 4 exact rfl | apply zaq; iterate 3 exact rfl | apply zau; iterate 2 exact rfl | apply zak; iterate 2 exact rfl | apply zag; iterate 2 exact rfl)
 (apply zac; (iterate 7 exact rfl); exact ofL W _ g3 5 6 [0, 1, 50, 10, 0] (by (repeat (first | exact mcs))) rfl (Nat.le_of_ble_eq_true rfl))
 repeat' (first | apply zae | apply zaa | apply zaj | apply zah | apply zas | apply zaf | apply zad | apply zab hT; iterate 4 exact rfl | apply zaq; iterate 3 exact rfl | apply zau; iterate 2 exact rfl | apply zak; iterate 2 exact rfl | apply zag; iterate 2 exact rfl)
 (apply zaz; (iterate 7 exact rfl); exact zaB.perm (d4 _ (y3.at x.d) b3 q3 f3) (by (try unfold zai); (repeat (first | exact List.Perm.refl _ | (apply zaX; · (repeat (first | exact sel0 | apply selS ))) | (apply za0; · (repeat (first | exact zaP | apply zaT )))))); rintro _ _ ⟨y4, b4, q4, B4, e4, rfl, rfl, f4, v4⟩)
 repeat' (first | apply zae | apply zaa | apply zaj | apply zah | apply zas | apply zaf | apply zad | apply zab hT; iterate 4 exact rfl | apply zaq; iterate 3 exact rfl | apply zau; iterate 2 exact rfl | apply zak; iterate 2 exact rfl | apply zag; iterate 2 exact rfl)
 (apply zac; (iterate 7 exact rfl); exact zbr W _ B4 e4 r4.2 h4 (v4.reads (by (repeat (first | exact mcs)))))
 repeat' (first | apply zae | apply zaa | apply zad | apply zab hT; iterate 4 exact rfl)
 (apply zao (cs := [.int .i64 0, .int .i64 1, .int .i64 10, .int .i64 4, .int .i64 9]) hT; (iterate 12 exact rfl); intro g4)
 repeat' (first | apply zae | apply zaa | apply zaj | apply zah | apply zas | apply zaf | apply zad | apply zab hT; iterate 4 exact rfl | apply zaq; iterate 3 exact rfl | apply zau; iterate 2 exact rfl | apply zak; iterate 2 exact rfl | apply zag; iterate 2 exact rfl)
 (apply zac; (iterate 7 exact rfl); exact ofL W _ g4 5 9 [0, 1, 10, 4, 9] (by (repeat (first | exact mcs))) rfl (Nat.le_of_ble_eq_true rfl))
 repeat' (first | apply zae | apply zaa | apply zaj | apply zah | apply zas | apply zaf | apply zad | apply zab hT; iterate 4 exact rfl | apply zaq; iterate 3 exact rfl | apply zau; iterate 2 exact rfl | apply zak; iterate 2 exact rfl | apply zag; iterate 2 exact rfl)
 (apply zaz; (iterate 7 exact rfl); exact zaB.perm (d5 _ (y4.at x.d) b4 q4 f4) (by (try unfold zai); (repeat (first | exact List.Perm.refl _ | (apply zaX; · (repeat (first | exact sel0 | apply selS ))) | (apply za0; · (repeat (first | exact zaP | apply zaT )))))); rintro _ _ ⟨y5, b5, q5, B5, e5, rfl, rfl, f5, v5⟩)
 repeat' (first | apply zae | apply zaa | apply zaj | apply zah | apply zas | apply zaf | apply zad | apply zab hT; iterate 4 exact rfl | apply zaq; iterate 3 exact rfl | apply zau; iterate 2 exact rfl | apply zak; iterate 2 exact rfl | apply zag; iterate 2 exact rfl)
 (apply zac; (iterate 7 exact rfl); exact zbr W _ B5 e5 r5.2 h5 (v5.reads (by (repeat (first | exact mcs)))))
 repeat' (first | apply zae | apply zaa | apply zad | apply zab hT; iterate 4 exact rfl)
 (apply zao (cs := [.int .i64 1]) hT; (iterate 12 exact rfl); intro g5)
 repeat' (first | apply zae | apply zaa | apply zaj | apply zah | apply zas | apply zaf | apply zad | apply zab hT; iterate 4 exact rfl | apply zaq; iterate 3 exact rfl | apply zau; iterate 2 exact rfl | apply zak; iterate 2 exact rfl | apply zag; iterate 2 exact rfl)
 (apply zac; (iterate 7 exact rfl); exact ofL W _ g5 1 7 [1] (by (repeat (first | exact mcs))) rfl (Nat.le_of_ble_eq_true rfl))
 repeat' (first | apply zae | apply zaa | apply zaj | apply zah | apply zas | apply zaf | apply zad | apply zab hT; iterate 4 exact rfl | apply zaq; iterate 3 exact rfl | apply zau; iterate 2 exact rfl | apply zak; iterate 2 exact rfl | apply zag; iterate 2 exact rfl)
 (apply zaz; (iterate 7 exact rfl); exact zaB.perm (d6 _ (y5.at x.d) b5 q5 f5) (by (try unfold zai); (repeat (first | exact List.Perm.refl _ | (apply zaX; · (repeat (first | exact sel0 | apply selS ))) | (apply za0; · (repeat (first | exact zaP | apply zaT )))))); rintro _ _ ⟨y6, b6, q6, B6, e6, rfl, rfl, f6, v6⟩)
 repeat' (first | apply zae | apply zaa | apply zaj | apply zah | apply zas | apply zaf | apply zad | apply zab hT; iterate 4 exact rfl | apply zaq; iterate 3 exact rfl | apply zau; iterate 2 exact rfl | apply zak; iterate 2 exact rfl | apply zag; iterate 2 exact rfl)
 (apply zac; (iterate 7 exact rfl); exact zbr W _ B6 e6 r6.2 h6 (v6.reads (by (repeat (first | exact mcs)))))
 repeat' (first | apply zae | apply zaa | apply zad | apply zab hT; iterate 4 exact rfl)
 (apply zao (cs := [.int .i64 1]) hT; (iterate 12 exact rfl); intro g6)
 repeat' (first | apply zae | apply zaa | apply zaj | apply zah | apply zas | apply zaf | apply zad | apply zab hT; iterate 4 exact rfl | apply zaq; iterate 3 exact rfl | apply zau; iterate 2 exact rfl | apply zak; iterate 2 exact rfl | apply zag; iterate 2 exact rfl)
 (apply zac; (iterate 7 exact rfl); exact ofL W _ g6 1 14 [1] (by (repeat (first | exact mcs))) rfl (Nat.le_of_ble_eq_true rfl))
 repeat' (first | apply zae | apply zaa | apply zaj | apply zah | apply zas | apply zaf | apply zad | apply zab hT; iterate 4 exact rfl | apply zaq; iterate 3 exact rfl | apply zau; iterate 2 exact rfl | apply zak; iterate 2 exact rfl | apply zag; iterate 2 exact rfl)
 (apply zaz; (iterate 7 exact rfl); exact zaB.perm (d7 _ (y6.at x.d) b6 q6 f6) (by (try unfold zai); (repeat (first | exact List.Perm.refl _ | (apply zaX; · (repeat (first | exact sel0 | apply selS ))) | (apply za0; · (repeat (first | exact zaP | apply zaT )))))); rintro _ _ ⟨y7, b7, q7, B7, e7, rfl, rfl, f7, v7⟩)
 repeat' (first | apply zae | apply zaa | apply zaj | apply zah | apply zas | apply zaf | apply zad | apply zab hT; iterate 4 exact rfl | apply zaq; iterate 3 exact rfl | apply zau; iterate 2 exact rfl | apply zak; iterate 2 exact rfl | apply zag; iterate 2 exact rfl)
 (apply zac; (iterate 7 exact rfl); exact zbr W _ B7 e7 r7.2 h7 (v7.reads (by (repeat (first | exact mcs)))))
 repeat' (first | apply zae | apply zaa | apply zad | apply zab hT; iterate 4 exact rfl)
 (apply zao (cs := [.int .i64 1, .int .i64 1, .int .i64 50, .int .i64 10, .int .i64 0]) hT; (iterate 12 exact rfl); intro g7)
 repeat' (first | apply zae | apply zaa | apply zaj | apply zah | apply zas | apply zaf | apply zad | apply zab hT; iterate 4 exact rfl | apply zaq; iterate 3 exact rfl | apply zau; iterate 2 exact rfl | apply zak; iterate 2 exact rfl | apply zag; iterate 2 exact rfl)
 (apply zac; (iterate 7 exact rfl); exact ofL W _ g7 5 6 [1, 1, 50, 10, 0] (by (repeat (first | exact mcs))) rfl (Nat.le_of_ble_eq_true rfl))
 repeat' (first | apply zae | apply zaa | apply zaj | apply zah | apply zas | apply zaf | apply zad | apply zab hT; iterate 4 exact rfl | apply zaq; iterate 3 exact rfl | apply zau; iterate 2 exact rfl | apply zak; iterate 2 exact rfl | apply zag; iterate 2 exact rfl)
 (apply zaz; (iterate 7 exact rfl); exact zaB.perm (d8 _ (y7.at x.d) b7 q7 f7) (by (try unfold zai); (repeat (first | exact List.Perm.refl _ | (apply zaX; · (repeat (first | exact sel0 | apply selS ))) | (apply za0; · (repeat (first | exact zaP | apply zaT )))))); rintro _ _ ⟨y8, b8, q8, B8, e8, rfl, rfl, f8, v8⟩)
 repeat' (first | apply zae | apply zaa | apply zaj | apply zah | apply zas | apply zaf | apply zad | apply zab hT; iterate 4 exact rfl | apply zaq; iterate 3 exact rfl | apply zau; iterate 2 exact rfl | apply zak; iterate 2 exact rfl | apply zag; iterate 2 exact rfl)
 (apply zac; (iterate 7 exact rfl); exact zbr W _ B8 e8 r8.2 h8 (v8.reads (by (repeat (first | exact mcs)))))
 repeat' (first | apply zae | apply zaa | apply zad | apply zab hT; iterate 4 exact rfl)
 (apply zaz; (iterate 7 exact rfl); exact zcW W _; rintro _ _ ⟨rfl, rfl⟩)
 repeat' (first | apply zaj | apply zad | apply zab hT; iterate 4 exact rfl)
 (apply ret1; exact rfl; exact ⟨[], zcv, rfl⟩)
theorem zop : zbG (doD false (zbi (doD false (wayD 0) 1 1 (zaw 6 [0, 2, 200, 10, 0])).1).1 4 1 (zaw 17 [0, 0])).2 = 0 ∧ zbG (doD false (doD false (zbi (doD false (wayD 0) 1 1 (zaw 6 [0, 2, 200, 10, 0])).1).1 4 1 (zaw 17 [0, 0])).1 0 5 (zaw 6 [0, 1, 50, 10, 0])).2 = 0 ∧ zbG (doD false (doD false (doD false (zbi (doD false (wayD 0) 1 1 (zaw 6 [0, 2, 200, 10, 0])).1).1 4 1 (zaw 17 [0, 0])).1 0 5 (zaw 6 [0, 1, 50, 10, 0])).1 0 6 (zaw 9 [0, 1, 10, 4, 9])).2 = 0 ∧ zbG (doD false (doD false (doD false (doD false (zbi (doD false (wayD 0) 1 1 (zaw 6 [0, 2, 200, 10, 0])).1).1 4 1 (zaw 17 [0, 0])).1 0 5 (zaw 6 [0, 1, 50, 10, 0])).1 0 6 (zaw 9 [0, 1, 10, 4, 9])).1 1 7 (zaw 7 [1])).2 = 0 ∧ zbG (doD false (doD false (doD false (doD false (doD false (zbi (doD false (wayD 0) 1 1 (zaw 6 [0, 2, 200, 10, 0])).1).1 4 1 (zaw 17 [0, 0])).1 0 5 (zaw 6 [0, 1, 50, 10, 0])).1 0 6 (zaw 9 [0, 1, 10, 4, 9])).1 1 7 (zaw 7 [1])).1 2 8 (zaw 14 [1])).2 = 0 ∧ zbG (doD false (doD false (doD false (doD false (doD false (doD false (zbi (doD false (wayD 0) 1 1 (zaw 6 [0, 2, 200, 10, 0])).1).1 4 1 (zaw 17 [0, 0])).1 0 5 (zaw 6 [0, 1, 50, 10, 0])).1 0 6 (zaw 9 [0, 1, 10, 4, 9])).1 1 7 (zaw 7 [1])).1 2 8 (zaw 14 [1])).1 0 9 (zaw 6 [1, 1, 50, 10, 0])).2 = 0 := by decide +kernel
set_option maxHeartbeats 8000000 in
theorem zpV (W : World) : zaB Tryz.prog W 4 [.bool false] [] (fun v _ => v = .bool true) := by
 refine zaB.dropTo ?_
 obtain ⟨hD0, hO0⟩ := zdo (w := 0) (.inl rfl)
 have hb0 : bitI .and .i64 0 3 = 0 := by decide +kernel
 have w1 : MsgW (zaw 6 [0, 2, 200, 10, 0]) := by unfold MsgW inW zaw; decide
 have d1 := fun G (x : DAd) b q f => zba W G x (wayD 0) b q (0) hD0 hO0 (by omega) f 1 1 _ w1
 have hD1 := hD0.do' (rf := false) 1 1 (zaw 6 [0, 2, 200, 10, 0])
 have hO1 := hO0.do' (rf := false) hD0 1 1 (zaw 6 [0, 2, 200, 10, 0])
 have sk1 := zfl hD1 hO1
 have d2 := fun G (x : DAd) b q f => zg1 W G x (doD false (wayD 0) 1 1 (zaw 6 [0, 2, 200, 10, 0])).1 b q (0 + 1) hD1 hO1 (by omega) f
 have hD2 := sk1.1
 have hO2 := sk1.2
 have w3 : MsgW (zaw 17 [0, 0]) := by unfold MsgW inW zaw; decide
 have d3 := fun G (x : DAd) b q f => zba W G x (zbi (doD false (wayD 0) 1 1 (zaw 6 [0, 2, 200, 10, 0])).1).1 b q (0 + 1 + 4) hD2 hO2 (by omega) f 4 1 _ w3
 have hD3 := hD2.do' (rf := false) 4 1 (zaw 17 [0, 0])
 have hO3 := hO2.do' (rf := false) hD2 4 1 (zaw 17 [0, 0])
 have w4 : MsgW (zaw 6 [0, 1, 50, 10, 0]) := by unfold MsgW inW zaw; decide
 have d4 := fun G (x : DAd) b q f => zba W G x (doD false (zbi (doD false (wayD 0) 1 1 (zaw 6 [0, 2, 200, 10, 0])).1).1 4 1 (zaw 17 [0, 0])).1 b q (0 + 1 + 4 + 1) hD3 hO3 (by omega) f 0 5 _ w4
 have hD4 := hD3.do' (rf := false) 0 5 (zaw 6 [0, 1, 50, 10, 0])
 have hO4 := hO3.do' (rf := false) hD3 0 5 (zaw 6 [0, 1, 50, 10, 0])
 have w5 : MsgW (zaw 9 [0, 1, 10, 4, 9]) := by unfold MsgW inW zaw; decide
 have d5 := fun G (x : DAd) b q f => zba W G x (doD false (doD false (zbi (doD false (wayD 0) 1 1 (zaw 6 [0, 2, 200, 10, 0])).1).1 4 1 (zaw 17 [0, 0])).1 0 5 (zaw 6 [0, 1, 50, 10, 0])).1 b q (0 + 1 + 4 + 1 + 1) hD4 hO4 (by omega) f 0 6 _ w5
 have hD5 := hD4.do' (rf := false) 0 6 (zaw 9 [0, 1, 10, 4, 9])
 have hO5 := hO4.do' (rf := false) hD4 0 6 (zaw 9 [0, 1, 10, 4, 9])
 have w6 : MsgW (zaw 7 [1]) := by unfold MsgW inW zaw; decide
 have d6 := fun G (x : DAd) b q f => zba W G x (doD false (doD false (doD false (zbi (doD false (wayD 0) 1 1 (zaw 6 [0, 2, 200, 10, 0])).1).1 4 1 (zaw 17 [0, 0])).1 0 5 (zaw 6 [0, 1, 50, 10, 0])).1 0 6 (zaw 9 [0, 1, 10, 4, 9])).1 b q (0 + 1 + 4 + 1 + 1 + 1) hD5 hO5 (by omega) f 1 7 _ w6
 have hD6 := hD5.do' (rf := false) 1 7 (zaw 7 [1])
 have hO6 := hO5.do' (rf := false) hD5 1 7 (zaw 7 [1])
 have w7 : MsgW (zaw 14 [1]) := by unfold MsgW inW zaw; decide
 have d7 := fun G (x : DAd) b q f => zba W G x (doD false (doD false (doD false (doD false (zbi (doD false (wayD 0) 1 1 (zaw 6 [0, 2, 200, 10, 0])).1).1 4 1 (zaw 17 [0, 0])).1 0 5 (zaw 6 [0, 1, 50, 10, 0])).1 0 6 (zaw 9 [0, 1, 10, 4, 9])).1 1 7 (zaw 7 [1])).1 b q (0 + 1 + 4 + 1 + 1 + 1 + 1) hD6 hO6 (by omega) f 2 8 _ w7
 have hD7 := hD6.do' (rf := false) 2 8 (zaw 14 [1])
 have hO7 := hO6.do' (rf := false) hD6 2 8 (zaw 14 [1])
 have w8 : MsgW (zaw 6 [1, 1, 50, 10, 0]) := by unfold MsgW inW zaw; decide
 have d8 := fun G (x : DAd) b q f => zba W G x (doD false (doD false (doD false (doD false (doD false (zbi (doD false (wayD 0) 1 1 (zaw 6 [0, 2, 200, 10, 0])).1).1 4 1 (zaw 17 [0, 0])).1 0 5 (zaw 6 [0, 1, 50, 10, 0])).1 0 6 (zaw 9 [0, 1, 10, 4, 9])).1 1 7 (zaw 7 [1])).1 2 8 (zaw 14 [1])).1 b q (0 + 1 + 4 + 1 + 1 + 1 + 1 + 1) hD7 hO7 (by omega) f 0 9 _ w8
 have hD8 := hD7.do' (rf := false) 0 9 (zaw 6 [1, 1, 50, 10, 0])
 have hO8 := hO7.do' (rf := false) hD7 0 9 (zaw 6 [1, 1, 50, 10, 0])
 obtain ⟨h3, h4, h5, h6, h7, h8⟩ := zop
 clear hD8 hO8 hD7 hO7 hD6 hO6 hD5 hO5 hD4 hO4 hD3 hO3 hD2 hO2 hD1 hO1 hD0 hO0
 generalize doD false (wayD 0) 1 1 (zaw 6 [0, 2, 200, 10, 0]) = r1 at *
 generalize zbi r1.1 = r2 at *
 generalize doD false r2.1 4 1 (zaw 17 [0, 0]) = r3 at *
 generalize doD false r3.1 0 5 (zaw 6 [0, 1, 50, 10, 0]) = r4 at *
 generalize doD false r4.1 0 6 (zaw 9 [0, 1, 10, 4, 9]) = r5 at *
 generalize doD false r5.1 1 7 (zaw 7 [1]) = r6 at *
 generalize doD false r6.1 2 8 (zaw 14 [1]) = r7 at *
 generalize doD false r7.1 0 9 (zaw 6 [1, 1, 50, 10, 0]) = r8 at *
 refine zan Tryz.func4 rfl rfl Tryz.results4 Tryz.ntmps4 rfl rfl ?_
 repeat' (first | apply zae | apply zaa | apply zad | apply zab hT; iterate 4 exact rfl)
 (apply zaz; (iterate 7 exact rfl); exact zdn W _ 0 0 hb0 (.inl rfl); rintro _ _ ⟨A1, c1, A2, c2, rfl, rfl⟩)
 repeat' (first | apply zae | apply zaa | apply zaj | apply zah | apply zas | apply zaf | apply zad | apply zab hT; iterate 4 exact rfl | apply zaq; iterate 3 exact rfl | apply zau; iterate 2 exact rfl | apply zak; iterate 2 exact rfl | apply zag; iterate 2 exact rfl)
 (apply zaz; (iterate 7 exact rfl); exact zcq W _ 0 (.inl rfl) A1 A2 c1 c2 (by (repeat (first | exact mcs))) (by (repeat (first | exact mcs | apply mcm))); rintro _ _ ⟨x, b0, q0, rfl, rfl, f0⟩)
 repeat' (first | apply zae | apply zaa | apply zad | apply zab hT; iterate 4 exact rfl)
 (apply zao (cs := [.int .i64 0, .int .i64 2, .int .i64 200, .int .i64 10, .int .i64 0]) hT; (iterate 12 exact rfl); intro g1)
 repeat' (first | apply zae | apply zaa | apply zaj | apply zah | apply zas | apply zaf | apply zad | apply zab hT; iterate 4 exact rfl | apply zaq; iterate 3 exact rfl | apply zau; iterate 2 exact rfl | apply zak; iterate 2 exact rfl | apply zag; iterate 2 exact rfl)
 (apply zac; (iterate 7 exact rfl); exact ofL W _ g1 5 6 [0, 2, 200, 10, 0] (by (repeat (first | exact mcs))) rfl (Nat.le_of_ble_eq_true rfl))
 repeat' (first | apply zae | apply zaa | apply zaj | apply zah | apply zas | apply zaf | apply zad | apply zab hT; iterate 4 exact rfl | apply zaq; iterate 3 exact rfl | apply zau; iterate 2 exact rfl | apply zak; iterate 2 exact rfl | apply zag; iterate 2 exact rfl)
 (apply zaz; (iterate 7 exact rfl); exact zaB.perm (d1 _ (x) b0 q0 f0) (by (try unfold zai); (repeat (first | exact List.Perm.refl _ | (apply zaX; · (repeat (first | exact sel0 | apply selS ))) | (apply za0; · (repeat (first | exact zaP | apply zaT )))))); rintro _ _ ⟨y1, b1, q1, B1, e1, rfl, rfl, f1, v1⟩)
 repeat' (first | apply zae | apply zaa | apply zad | apply zab hT; iterate 4 exact rfl)
 (apply zaz; (iterate 7 exact rfl); exact zaB.perm (d2 _ (y1.at x.d) b1 q1 f1) (by (try unfold zai); (repeat (first | exact List.Perm.refl _ | (apply zaX; · (repeat (first | exact sel0 | apply selS ))) | (apply za0; · (repeat (first | exact zaP | apply zaT )))))); rintro _ _ ⟨y2, b2, q2, B2, e2, rfl, rfl, f2, v2⟩)
 repeat' (first | apply zae | apply zaa | apply zah | apply zad | apply zab hT; iterate 4 exact rfl | apply zag; iterate 2 exact rfl)
 (apply zao (cs := [.int .i64 0, .int .i64 0]) hT; (iterate 12 exact rfl); intro g2)
 repeat' (first | apply zae | apply zaa | apply zaj | apply zah | apply zas | apply zaf | apply zad | apply zab hT; iterate 4 exact rfl | apply zaq; iterate 3 exact rfl | apply zau; iterate 2 exact rfl | apply zak; iterate 2 exact rfl | apply zag; iterate 2 exact rfl)
 (apply zac; (iterate 7 exact rfl); exact ofL W _ g2 2 17 [0, 0] (by (repeat (first | exact mcs))) rfl (Nat.le_of_ble_eq_true rfl))
 repeat' (first | apply zae | apply zaa | apply zaj | apply zah | apply zas | apply zaf | apply zad | apply zab hT; iterate 4 exact rfl | apply zaq; iterate 3 exact rfl | apply zau; iterate 2 exact rfl | apply zak; iterate 2 exact rfl | apply zag; iterate 2 exact rfl)
 (apply zaz; (iterate 7 exact rfl); exact zaB.perm (d3 _ (y2.at x.d) b2 q2 f2) (by (try unfold zai); (repeat (first | exact List.Perm.refl _ | (apply zaX; · (repeat (first | exact sel0 | apply selS ))) | (apply za0; · (repeat (first | exact zaP | apply zaT )))))); rintro _ _ ⟨y3, b3, q3, B3, e3, rfl, rfl, f3, v3⟩)
 repeat' (first | apply zae | apply zaa | apply zaj | apply zah | apply zas | apply zaf | apply zad | apply zab hT; iterate 4 exact rfl | apply zaq; iterate 3 exact rfl | apply zau; iterate 2 exact rfl | apply zak; iterate 2 exact rfl | apply zag; iterate 2 exact rfl)
 (apply zac; (iterate 7 exact rfl); exact zbr W _ B3 e3 r3.2 h3 (v3.reads (by (repeat (first | exact mcs)))))
 repeat' (first | apply zae | apply zaa | apply zah | apply zad | apply zab hT; iterate 4 exact rfl | apply zag; iterate 2 exact rfl)
 (apply zao (cs := [.int .i64 0, .int .i64 1, .int .i64 50, .int .i64 10, .int .i64 0]) hT; (iterate 12 exact rfl); intro g3)
 repeat' (first | apply zae | apply zaa | apply zaj | apply zah | apply zas | apply zaf | apply zad | apply zab hT; iterate 4 exact rfl | apply zaq; iterate 3 exact rfl | apply zau; iterate 2 exact rfl | apply zak; iterate 2 exact rfl | apply zag; iterate 2 exact rfl)
 (apply zac; (iterate 7 exact rfl); exact ofL W _ g3 5 6 [0, 1, 50, 10, 0] (by (repeat (first | exact mcs))) rfl (Nat.le_of_ble_eq_true rfl))
 repeat' (first | apply zae | apply zaa | apply zaj | apply zah | apply zas | apply zaf | apply zad | apply zab hT; iterate 4 exact rfl | apply zaq; iterate 3 exact rfl | apply zau; iterate 2 exact rfl | apply zak; iterate 2 exact rfl | apply zag; iterate 2 exact rfl)
 (apply zaz; (iterate 7 exact rfl); exact zaB.perm (d4 _ (y3.at x.d) b3 q3 f3) (by (try unfold zai); (repeat (first | exact List.Perm.refl _ | (apply zaX; · (repeat (first | exact sel0 | apply selS ))) | (apply za0; · (repeat (first | exact zaP | apply zaT )))))); rintro _ _ ⟨y4, b4, q4, B4, e4, rfl, rfl, f4, v4⟩)
 repeat' (first | apply zae | apply zaa | apply zaj | apply zah | apply zas | apply zaf | apply zad | apply zab hT; iterate 4 exact rfl | apply zaq; iterate 3 exact rfl | apply zau; iterate 2 exact rfl | apply zak; iterate 2 exact rfl | apply zag; iterate 2 exact rfl)
 (apply zac; (iterate 7 exact rfl); exact zbr W _ B4 e4 r4.2 h4 (v4.reads (by (repeat (first | exact mcs)))))
 repeat' (first | apply zae | apply zaa | apply zad | apply zab hT; iterate 4 exact rfl)
 (apply zao (cs := [.int .i64 0, .int .i64 1, .int .i64 10, .int .i64 4, .int .i64 9]) hT; (iterate 12 exact rfl); intro g4)
 repeat' (first | apply zae | apply zaa | apply zaj | apply zah | apply zas | apply zaf | apply zad | apply zab hT; iterate 4 exact rfl | apply zaq; iterate 3 exact rfl | apply zau; iterate 2 exact rfl | apply zak; iterate 2 exact rfl | apply zag; iterate 2 exact rfl)
 (apply zac; (iterate 7 exact rfl); exact ofL W _ g4 5 9 [0, 1, 10, 4, 9] (by (repeat (first | exact mcs))) rfl (Nat.le_of_ble_eq_true rfl))
 repeat' (first | apply zae | apply zaa | apply zaj | apply zah | apply zas | apply zaf | apply zad | apply zab hT; iterate 4 exact rfl | apply zaq; iterate 3 exact rfl | apply zau; iterate 2 exact rfl | apply zak; iterate 2 exact rfl | apply zag; iterate 2 exact rfl)
 (apply zaz; (iterate 7 exact rfl); exact zaB.perm (d5 _ (y4.at x.d) b4 q4 f4) (by (try unfold zai); (repeat (first | exact List.Perm.refl _ | (apply zaX; · (repeat (first | exact sel0 | apply selS ))) | (apply za0; · (repeat (first | exact zaP | apply zaT )))))); rintro _ _ ⟨y5, b5, q5, B5, e5, rfl, rfl, f5, v5⟩)
 repeat' (first | apply zae | apply zaa | apply zaj | apply zah | apply zas | apply zaf | apply zad | apply zab hT; iterate 4 exact rfl | apply zaq; iterate 3 exact rfl | apply zau; iterate 2 exact rfl | apply zak; iterate 2 exact rfl | apply zag; iterate 2 exact rfl)
 (apply zac; (iterate 7 exact rfl); exact zbr W _ B5 e5 r5.2 h5 (v5.reads (by (repeat (first | exact mcs)))))
 repeat' (first | apply zae | apply zaa | apply zad | apply zab hT; iterate 4 exact rfl)
 (apply zao (cs := [.int .i64 1]) hT; (iterate 12 exact rfl); intro g5)
 repeat' (first | apply zae | apply zaa | apply zaj | apply zah | apply zas | apply zaf | apply zad | apply zab hT; iterate 4 exact rfl | apply zaq; iterate 3 exact rfl | apply zau; iterate 2 exact rfl | apply zak; iterate 2 exact rfl | apply zag; iterate 2 exact rfl)
 (apply zac; (iterate 7 exact rfl); exact ofL W _ g5 1 7 [1] (by (repeat (first | exact mcs))) rfl (Nat.le_of_ble_eq_true rfl))
 repeat' (first | apply zae | apply zaa | apply zaj | apply zah | apply zas | apply zaf | apply zad | apply zab hT; iterate 4 exact rfl | apply zaq; iterate 3 exact rfl | apply zau; iterate 2 exact rfl | apply zak; iterate 2 exact rfl | apply zag; iterate 2 exact rfl)
 (apply zaz; (iterate 7 exact rfl); exact zaB.perm (d6 _ (y5.at x.d) b5 q5 f5) (by (try unfold zai); (repeat (first | exact List.Perm.refl _ | (apply zaX; · (repeat (first | exact sel0 | apply selS ))) | (apply za0; · (repeat (first | exact zaP | apply zaT )))))); rintro _ _ ⟨y6, b6, q6, B6, e6, rfl, rfl, f6, v6⟩)
 repeat' (first | apply zae | apply zaa | apply zaj | apply zah | apply zas | apply zaf | apply zad | apply zab hT; iterate 4 exact rfl | apply zaq; iterate 3 exact rfl | apply zau; iterate 2 exact rfl | apply zak; iterate 2 exact rfl | apply zag; iterate 2 exact rfl)
 (apply zac; (iterate 7 exact rfl); exact zbr W _ B6 e6 r6.2 h6 (v6.reads (by (repeat (first | exact mcs)))))
 repeat' (first | apply zae | apply zaa | apply zad | apply zab hT; iterate 4 exact rfl)
 (apply zao (cs := [.int .i64 1]) hT; (iterate 12 exact rfl); intro g6)
 repeat' (first | apply zae | apply zaa | apply zaj | apply zah | apply zas | apply zaf | apply zad | apply zab hT; iterate 4 exact rfl | apply zaq; iterate 3 exact rfl | apply zau; iterate 2 exact rfl | apply zak; iterate 2 exact rfl | apply zag; iterate 2 exact rfl)
 (apply zac; (iterate 7 exact rfl); exact ofL W _ g6 1 14 [1] (by (repeat (first | exact mcs))) rfl (Nat.le_of_ble_eq_true rfl))
 repeat' (first | apply zae | apply zaa | apply zaj | apply zah | apply zas | apply zaf | apply zad | apply zab hT; iterate 4 exact rfl | apply zaq; iterate 3 exact rfl | apply zau; iterate 2 exact rfl | apply zak; iterate 2 exact rfl | apply zag; iterate 2 exact rfl)
 (apply zaz; (iterate 7 exact rfl); exact zaB.perm (d7 _ (y6.at x.d) b6 q6 f6) (by (try unfold zai); (repeat (first | exact List.Perm.refl _ | (apply zaX; · (repeat (first | exact sel0 | apply selS ))) | (apply za0; · (repeat (first | exact zaP | apply zaT )))))); rintro _ _ ⟨y7, b7, q7, B7, e7, rfl, rfl, f7, v7⟩)
 repeat' (first | apply zae | apply zaa | apply zaj | apply zah | apply zas | apply zaf | apply zad | apply zab hT; iterate 4 exact rfl | apply zaq; iterate 3 exact rfl | apply zau; iterate 2 exact rfl | apply zak; iterate 2 exact rfl | apply zag; iterate 2 exact rfl)
 (apply zac; (iterate 7 exact rfl); exact zbr W _ B7 e7 r7.2 h7 (v7.reads (by (repeat (first | exact mcs)))))
 repeat' (first | apply zae | apply zaa | apply zad | apply zab hT; iterate 4 exact rfl)
 (apply zao (cs := [.int .i64 1, .int .i64 1, .int .i64 50, .int .i64 10, .int .i64 0]) hT; (iterate 12 exact rfl); intro g7)
 repeat' (first | apply zae | apply zaa | apply zaj | apply zah | apply zas | apply zaf | apply zad | apply zab hT; iterate 4 exact rfl | apply zaq; iterate 3 exact rfl | apply zau; iterate 2 exact rfl | apply zak; iterate 2 exact rfl | apply zag; iterate 2 exact rfl)
 (apply zac; (iterate 7 exact rfl); exact ofL W _ g7 5 6 [1, 1, 50, 10, 0] (by (repeat (first | exact mcs))) rfl (Nat.le_of_ble_eq_true rfl))
 repeat' (first | apply zae | apply zaa | apply zaj | apply zah | apply zas | apply zaf | apply zad | apply zab hT; iterate 4 exact rfl | apply zaq; iterate 3 exact rfl | apply zau; iterate 2 exact rfl | apply zak; iterate 2 exact rfl | apply zag; iterate 2 exact rfl)
 (apply zaz; (iterate 7 exact rfl); exact zaB.perm (d8 _ (y7.at x.d) b7 q7 f7) (by (try unfold zai); (repeat (first | exact List.Perm.refl _ | (apply zaX; · (repeat (first | exact sel0 | apply selS ))) | (apply za0; · (repeat (first | exact zaP | apply zaT )))))); rintro _ _ ⟨y8, b8, q8, B8, e8, rfl, rfl, f8, v8⟩)
 repeat' (first | apply zae | apply zaa | apply zaj | apply zah | apply zas | apply zaf | apply zad | apply zab hT; iterate 4 exact rfl | apply zaq; iterate 3 exact rfl | apply zau; iterate 2 exact rfl | apply zak; iterate 2 exact rfl | apply zag; iterate 2 exact rfl)
 (apply zac; (iterate 7 exact rfl); exact zbr W _ B8 e8 r8.2 h8 (v8.reads (by (repeat (first | exact mcs)))))
 repeat' (first | apply zae | apply zaa | apply zad | apply zab hT; iterate 4 exact rfl)
 (apply zaz; (iterate 7 exact rfl); exact zcW W _; rintro _ _ ⟨rfl, rfl⟩)
 repeat' (first | apply zaj | apply zad | apply zab hT; iterate 4 exact rfl)
 (apply ret1; exact rfl; exact ⟨[], zcv, rfl⟩)
theorem znd (W : World) (on : Bool) : zaB Tryz.prog W 4 [.bool on] [] (fun v _ => v = .bool true) := by
 cases on
 ·exact zpV W
 ·exact zpU W
end Go.Proofs.YtakilgkpfjhfdaaGreat
namespace Go.Proofs.YtakilgkpfjhfdaaGreat
namespace deskHalts
open Go Go.Sl Go.ChangeShapes Go.WideShapes Go.ChangeAt Go.RowKit
theorem own : ownKnob Tryz.prog.godebug = none := by kernel_rfl
theorem zdd : laidOutB Tryz.prog = true := by kernel_rfl
set_option maxRecDepth 100000 in
theorem zeg (os : Os) (started : os.Started) (H : Type) (enc : TypeId × Value → H) :
 ReturnsInHanded {} Tryz.checked os 4 .any (Rows.deskHaltsSpec.pre6 enc Tryz.prog Tryz.f4 Rows.deskHaltsRow.domain false) (Rows.deskHaltsSpec.post enc Tryz.prog Tryz.f4 false true false false) := by
 refine returnsInHanded_of_change (C := Tryz.checked) own started (by kernel_rfl) Tryz.func4
  (ChangeSpec.witness6 (enc := enc) (C := Tryz.checked) false ⟨#[], #[.bool false], []⟩ 8 (by kernel_rfl) (by kernel_rfl) (by kernel_rfl) (by kernel_rfl)) ?_
 intro W base args ds gs before hval0 hW hcnd _
 have hval : ∀ (j : Nat) t v, Tryz.f4.params[j]? = some t → args[j]? = some v → Value.okWide Tryz.prog W .any base t v := hval0
 have hW' := hW
 obtain ⟨p, q, hA0, hV, rfl, hfz, hnd⟩ := hW
 have hA : DataW.TrodAll enc Tryz.prog W 0 (fun _ => true) true Tryz.f4.params.toList args.toList ds p := hA0
 obtain ⟨rfl, rfl⟩ := trodVars_none hV
 simp only [List.append_nil] at hW'
 have hA1 := hA
 rw [Tryz.params4] at hA1 hval
 obtain ⟨v0, vs0, d0, ds0, p0, q0, hargs, rfl, rfl, h0, r0⟩ := trodAll_cons hA1
 obtain ⟨rfl, rfl, rfl⟩ := trodAll_nil r0
 obtain rfl : args = #[v0] := by cases args; simp_all
 obtain ⟨a0, rfl, _, _⟩ := open_bool Tryz.underlying4 (hval 0 4 v0 rfl rfl) h0
 refine (zaB.row (znd W a0) (fun _ _ h => h)).mono fun e W' ⟨he, hb⟩ => ?_
 subst he
 exact ⟨_, rfl, zen hW' hA zdd (by kernel_rfl) rfl rfl Tryz.underlying4 rfl rfl rfl hb⟩
theorem zg2 : Tryz.prog.funcNamed Rows.deskHaltsRow.func = some 4 := by kernel_rfl
set_option maxRecDepth 100000 in
set_option maxHeartbeats 8000000 in
theorem zeh : joinedFacts Tryz.prog 4 Tryz.f4 Rows.deskHaltsSpec Rows.deskHaltsRow = true := by
 unfold joinedFacts
 simp only [Bool.and_eq_true]
 repeat' apply And.intro
 all_goals decide +kernel
theorem inst : Tryz.f4.isInstance Tryz.prog Rows.deskHaltsRow.origin Rows.deskHaltsRow.targs := odt (by kernel_rfl)
theorem over : Rows.deskHaltsRow.holds Tryz.pinned (OpenSpec.ofChange Rows.deskHaltsSpec) :=
 OpenClaim.holds_of_wide 4 Tryz.f4 rfl rfl rfl rfl rfl rfl rfl ⟨rfl, rfl, rfl, rfl, rfl⟩ rfl rfl rfl rfl rfl zg2 Tryz.func4 zeh
  inst (by unfold Func.isWrapper; first | (rw [if_pos (by decide +kernel)]; kernel_rfl) | (rw [if_neg (by decide +kernel)]; exact ⟨rfl, rfl⟩))
  (fun os started H enc _ => zeg os started H enc)
end deskHalts
theorem deskHalts_holds : Rows.DeskHaltsSaid := deskHalts.over
#print axioms deskHalts_holds
end Go.Proofs.YtakilgkpfjhfdaaGreat
namespace Go.Proofs.YtakilgkpfjhfdaaGreat
open Go Go.Sl
attribute [local irreducible] AW ES EP Ld RetQ
set_option maxRecDepth 100000
def tk (s : Dk) : Dk := (zcB false s).1
end Go.Proofs.YtakilgkpfjhfdaaGreat
