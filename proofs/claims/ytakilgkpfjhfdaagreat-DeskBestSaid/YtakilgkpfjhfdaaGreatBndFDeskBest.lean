/- The statements' walks, and what they stand on, joined into few texts: the last of DeskBest. Conditions stand in each statement. -/
import Derived.Test.YtakilgkpfjhfdaaGreatBndF6
set_option linter.all false
namespace Go.Proofs.YtakilgkpfjhfdaaGreat
open Go Go.Sl
attribute [local irreducible] AW ES EP Ld RetQ
set_option maxRecDepth 100000
theorem zbr (W : World) (h : List zax) (A : Option Addr) (c : Nat) (o : List OutR) {n : Int} (he : zbG o = n) (hr : zaJ W h A o.length 8 (o.flatMap OutR.enc)) : zaL Tryz.prog W 16 [.slice A o.length c] h (.int .i64 n) := he ▸ zhM W h A c o hr
theorem all2 {f : Int → Int → Bool} {o m n : Nat} (h : (List.range m).all (fun p => (List.range n).all fun q => f ((p : Int) + (o + 1)) ((q : Int) + 1)) = true) {p q : Int} (hp : o + 1 ≤ p) (hp2 : p ≤ o + m) (hq : 1 ≤ q) (hq2 : q ≤ n) : f p q = true := by
 have h1 := List.all_eq_true.1 h (p - (o + 1)).toNat (List.mem_range.2 (by omega))
 have h2 := List.all_eq_true.1 h1 (q - 1).toNat (List.mem_range.2 (by omega))
 rw [show (((p - (o + 1)).toNat : Nat) : Int) + (o + 1) = p by omega, show (((q - 1).toNat : Nat) : Int) + 1 = q by omega] at h2
 exact h2
def bstR (a b s : Int) : Dk × List OutR := doD false (doD false (doD false (doD false (wayD 0) 0 1 (zaw 9 [0, s, 10, 12, 20])).1 2 1 (zaw 10 [1, 5 * a, 10])).1 3 1 (zaw 10 [1, 5 * b, 10])).1 0 2 (zaw 13 [1])
def bstF (a b : Int) (sell : Bool) : Bool := (a == b) || (decide (a < b) != sell)
def zll (sell : Bool) : Int := if sell then 2 else 1
def zfm (sell : Bool) (a b : Int) : Bool :=
 let R := bstR a b (zll sell)
 if bstF a b sell = false ∧ 50 * b > 3000 then zbG R.2 == 14 else zbG R.2 == 0 && R.2.length == 2 && (match R.2 with
  | [_, o] => decide (o = if bstF a b sell then outM 2 24 [1, 1, 3] else outM 3 24 [1, 2, 3])
  | _ => false)
theorem zq2 : (List.range 15).all (fun p => (List.range 90).all fun q => zfm false ((p : Int) + ((0 : Nat) + 1)) ((q : Int) + 1)) = true := by decide +kernel
theorem zq3 : (List.range 15).all (fun p => (List.range 90).all fun q => zfm false ((p : Int) + ((15 : Nat) + 1)) ((q : Int) + 1)) = true := by decide +kernel
theorem zq4 : (List.range 15).all (fun p => (List.range 90).all fun q => zfm false ((p : Int) + ((30 : Nat) + 1)) ((q : Int) + 1)) = true := by decide +kernel
theorem zq5 : (List.range 15).all (fun p => (List.range 90).all fun q => zfm false ((p : Int) + ((45 : Nat) + 1)) ((q : Int) + 1)) = true := by decide +kernel
theorem zq6 : (List.range 15).all (fun p => (List.range 90).all fun q => zfm false ((p : Int) + ((60 : Nat) + 1)) ((q : Int) + 1)) = true := by decide +kernel
theorem zq7 : (List.range 15).all (fun p => (List.range 90).all fun q => zfm false ((p : Int) + ((75 : Nat) + 1)) ((q : Int) + 1)) = true := by decide +kernel
theorem zq8 : (List.range 15).all (fun p => (List.range 90).all fun q => zfm true ((p : Int) + ((0 : Nat) + 1)) ((q : Int) + 1)) = true := by decide +kernel
theorem zq9 : (List.range 15).all (fun p => (List.range 90).all fun q => zfm true ((p : Int) + ((15 : Nat) + 1)) ((q : Int) + 1)) = true := by decide +kernel
theorem zra : (List.range 15).all (fun p => (List.range 90).all fun q => zfm true ((p : Int) + ((30 : Nat) + 1)) ((q : Int) + 1)) = true := by decide +kernel
theorem zrb : (List.range 15).all (fun p => (List.range 90).all fun q => zfm true ((p : Int) + ((45 : Nat) + 1)) ((q : Int) + 1)) = true := by decide +kernel
theorem zrc : (List.range 15).all (fun p => (List.range 90).all fun q => zfm true ((p : Int) + ((60 : Nat) + 1)) ((q : Int) + 1)) = true := by decide +kernel
theorem zrd : (List.range 15).all (fun p => (List.range 90).all fun q => zfm true ((p : Int) + ((75 : Nat) + 1)) ((q : Int) + 1)) = true := by decide +kernel
theorem zpj {sell : Bool} {p q : Int} (h1 : 1 ≤ p) (h2 : p ≤ 90) (h3 : 1 ≤ q) (h4 : q ≤ 90) : zfm sell p q = true := by
 cases sell
 ·by_cases k0 : p ≤ 15
  ·exact all2 zq2 (by omega) (by omega) h3 (by omega)
  by_cases k1 : p ≤ 30
  ·exact all2 zq3 (by omega) (by omega) h3 (by omega)
  by_cases k2 : p ≤ 45
  ·exact all2 zq4 (by omega) (by omega) h3 (by omega)
  by_cases k3 : p ≤ 60
  ·exact all2 zq5 (by omega) (by omega) h3 (by omega)
  by_cases k4 : p ≤ 75
  ·exact all2 zq6 (by omega) (by omega) h3 (by omega)
  exact all2 zq7 (by omega) (by omega) h3 (by omega)
 ·by_cases k0 : p ≤ 15
  ·exact all2 zq8 (by omega) (by omega) h3 (by omega)
  by_cases k1 : p ≤ 30
  ·exact all2 zq9 (by omega) (by omega) h3 (by omega)
  by_cases k2 : p ≤ 45
  ·exact all2 zra (by omega) (by omega) h3 (by omega)
  by_cases k3 : p ≤ 60
  ·exact all2 zrb (by omega) (by omega) h3 (by omega)
  by_cases k4 : p ≤ 75
  ·exact all2 zrc (by omega) (by omega) h3 (by omega)
  exact all2 zrd (by omega) (by omega) h3 (by omega)
theorem zpT {sell : Bool} {a b : Int} (h1 : 1 ≤ a) (h2 : a ≤ 90) (h3 : 1 ≤ b) (h4 : b ≤ 90) : (bstF a b sell = false → 50 * b > 3000 → zbG (bstR a b (zll sell)).2 = 14) ∧ ((bstF a b sell = true ∨ 50 * b ≤ 3000) → zbG (bstR a b (zll sell)).2 = 0 ∧ (bstR a b (zll sell)).2.length = 2 ∧ (bstR a b (zll sell)).2[(1 : Int).toNat]? = some (if bstF a b sell then outM 2 24 [1, 1, 3] else outM 3 24 [1, 2, 3])) := by
 have h := zpj (sell := sell) h1 h2 h3 h4
 unfold zfm at h
 dsimp only at h
 generalize bstR a b (zll sell) = R at *
 constructor
 ·intro f g
  rw [if_pos ⟨f, g⟩] at h
  exact eq_of_beq h
 ·intro f
  rw [if_neg (by rcases f with f | f; rw [f]; simp; omega)] at h
  simp only [Bool.and_eq_true, beq_iff_eq] at h
  obtain ⟨⟨e1, e2⟩, e3⟩ := h
  refine ⟨e1, e2, ?_⟩
  split at e3
  ·rename_i u o hs
   rw [hs]
   show some o = _
   rw [odt e3]
  ·cases e3
def tk (s : Dk) : Dk := (zcB false s).1
theorem zin (W : World) (h : List zax) (A : Option Addr) (c : Nat) (o : List OutR) {k : Nat} {n : Int} (hl : o.length = k) (he : zbG o = n) (hr : zaJ W h A k 8 (o.flatMap OutR.enc)) : zaL Tryz.prog W 16 [.slice A k c] h (.int .i64 n) := by
 subst hl
 exact zbr W h A c o he hr
theorem zbI {P : Program} {W : World} {T : Tab} {N : Nat} {env : Env} {h : List zax} {kf : KF} {ops : Array Oper} {K : Env → List zax → Prop} {rest : List Oper} (hT : zbB P T) {b t u : Bool} {d : Tmp} {op : Op} {ty pos af g} (hg : zbC ops env g = some b) (hb : b = true) (hd : Nat.blt d N = true) (hv : zeW T env op = some (.bool t)) (ht : t = u)
 (hK : ES P W N kf ops rest ((d, .bool u) :: env) h K) : ES P W N kf ops (⟨some d, op, ty, pos, af, g⟩ :: rest) env h K := by
 subst ht
 exact zab hT hg hb hd hv hK
theorem zkv (a : OutR) : eqT TT [45, 25] 5 45 (.agg a.enc.toArray) (.agg a.enc.toArray) = some true := (zpR a a).trans (by simp)
set_option maxHeartbeats 4000000 in
theorem bstX (W : World) (pa pb : Int) (sell : Bool) (hx : pa < 1 ∨ 90 < pa ∨ pb < 1 ∨ 90 < pb) : zaB Tryz.prog W 5 [.int .i64 pa, .int .i64 pb, .bool sell] [] (fun v _ => v = .bool true) := by
 refine zaB.dropTo ?_
 refine zan Tryz.func5 rfl rfl Tryz.results5 Tryz.ntmps5 rfl rfl ?_
 all_goals repeat' (first | apply zae | apply zaa | apply zaj | apply zad | apply zab hT; iterate 4 exact rfl | apply zaq; iterate 3 exact rfl | apply zak; iterate 2 exact rfl | (apply zav; exact rfl; all_goals (intro hb; (try dsimp only at hb); (try simp only [hb]); (first | replace hb := odt hb | replace hb := odf hb ); (try omega))) | (apply zam; exact rfl; all_goals (intro hb; (try dsimp only at hb); (try simp only [hb]); (first | replace hb := odt hb | replace hb := odf hb ); (try omega))))
 all_goals (apply ret1; exact rfl; exact ⟨[], zcv, rfl⟩)
set_option maxHeartbeats 8000000 in
theorem zol (W : World) (pa pb : Int) (V1 V2 V3 : Bool) (pa1 : 1 ≤ pa) (pa2 : pa ≤ 90) (pb1 : 1 ≤ pb) (pb2 : pb ≤ 90) (u1 : decide (pa < pb) = V1) (u2 : (pa == pb) = V2) (u3 : decide (50 * pb > 3000) = V3) : zaB Tryz.prog W 5 [.int .i64 pa, .int .i64 pb, .bool false] [] (fun v _ => v = .bool true) := by
 refine zaB.dropTo ?_
 obtain ⟨hD0, hO0⟩ := zdo (w := 0) (.inl rfl)
 have hb0 : bitI .and .i64 0 3 = 0 := by decide +kernel
 have hv := zpT (sell := false) pa1 pa2 pb1 pb2
 have hF : bstF pa pb false = (V2 || (V1 != false)) := by unfold bstF; rw [u1, u2]
 have hG : (50 * pb > 3000) ↔ V3 = true := by rw [← u3, decide_eq_true_iff]
 rw [hF] at hv
 clear hF
 unfold bstR at hv
 change (_ → _ → zbG (doD false (doD false (doD false (doD false (wayD 0) 0 1 (zaw 9 [0, 1, 10, 12, 20])).1 2 1 (zaw 10 [1, 5 * pa, 10])).1 3 1 (zaw 10 [1, 5 * pb, 10])).1 0 2 (zaw 13 [1])).2 = 14) ∧ (_ → zbG (doD false (doD false (doD false (doD false (wayD 0) 0 1 (zaw 9 [0, 1, 10, 12, 20])).1 2 1 (zaw 10 [1, 5 * pa, 10])).1 3 1 (zaw 10 [1, 5 * pb, 10])).1 0 2 (zaw 13 [1])).2 = 0 ∧ (doD false (doD false (doD false (doD false (wayD 0) 0 1 (zaw 9 [0, 1, 10, 12, 20])).1 2 1 (zaw 10 [1, 5 * pa, 10])).1 3 1 (zaw 10 [1, 5 * pb, 10])).1 0 2 (zaw 13 [1])).2.length = 2 ∧ (doD false (doD false (doD false (doD false (wayD 0) 0 1 (zaw 9 [0, 1, 10, 12, 20])).1 2 1 (zaw 10 [1, 5 * pa, 10])).1 3 1 (zaw 10 [1, 5 * pb, 10])).1 0 2 (zaw 13 [1])).2[(1 : Int).toNat]? = some _) at hv
 have w1 : MsgW (zaw 9 [0, 1, 10, 12, 20]) := by unfold MsgW inW zaw; decide
 have d1 := fun G (x : DAd) b q f => zba W G x (wayD 0) b q (0) hD0 hO0 (by omega) f 0 1 _ w1
 have hD1 := hD0.do' (rf := false) 0 1 (zaw 9 [0, 1, 10, 12, 20])
 have hO1 := hO0.do' (rf := false) hD0 0 1 (zaw 9 [0, 1, 10, 12, 20])
 have w2 : MsgW (zaw 10 [1, 5 * pa, 10]) := zeU (fun n hn => by simp only [List.mem_cons, List.not_mem_nil, or_false] at hn; unfold inW; omega)
 have d2 := fun G (x : DAd) b q f => zba W G x (doD false (wayD 0) 0 1 (zaw 9 [0, 1, 10, 12, 20])).1 b q (0 + 1) hD1 hO1 (by omega) f 2 1 _ w2
 have hD2 := hD1.do' (rf := false) 2 1 (zaw 10 [1, 5 * pa, 10])
 have hO2 := hO1.do' (rf := false) hD1 2 1 (zaw 10 [1, 5 * pa, 10])
 have w3 : MsgW (zaw 10 [1, 5 * pb, 10]) := zeU (fun n hn => by simp only [List.mem_cons, List.not_mem_nil, or_false] at hn; unfold inW; omega)
 have d3 := fun G (x : DAd) b q f => zba W G x (doD false (doD false (wayD 0) 0 1 (zaw 9 [0, 1, 10, 12, 20])).1 2 1 (zaw 10 [1, 5 * pa, 10])).1 b q (0 + 1 + 1) hD2 hO2 (by omega) f 3 1 _ w3
 have hD3 := hD2.do' (rf := false) 3 1 (zaw 10 [1, 5 * pb, 10])
 have hO3 := hO2.do' (rf := false) hD2 3 1 (zaw 10 [1, 5 * pb, 10])
 have w4 : MsgW (zaw 13 [1]) := by unfold MsgW inW zaw; decide
 have d4 := fun G (x : DAd) b q f => zba W G x (doD false (doD false (doD false (wayD 0) 0 1 (zaw 9 [0, 1, 10, 12, 20])).1 2 1 (zaw 10 [1, 5 * pa, 10])).1 3 1 (zaw 10 [1, 5 * pb, 10])).1 b q (0 + 1 + 1 + 1) hD3 hO3 (by omega) f 0 2 _ w4
 have hD4 := hD3.do' (rf := false) 0 2 (zaw 13 [1])
 have hO4 := hO3.do' (rf := false) hD3 0 2 (zaw 13 [1])
 clear hD4 hO4 hD3 hO3 hD2 hO2 hD1 hO1 hD0 hO0
 generalize doD false (wayD 0) 0 1 (zaw 9 [0, 1, 10, 12, 20]) = r1 at *
 generalize doD false r1.1 2 1 (zaw 10 [1, 5 * pa, 10]) = r2 at *
 generalize doD false r2.1 3 1 (zaw 10 [1, 5 * pb, 10]) = r3 at *
 generalize doD false r3.1 0 2 (zaw 13 [1]) = r4 at *
 have hcase : (zbG r4.2 = 14 ∧ (!(V2 || (V1 != false)) && V3) = true) ∨ ((!(V2 || (V1 != false)) && V3) = false ∧ zbG r4.2 = 0 ∧ r4.2.length = 2 ∧ r4.2[(1 : Int).toNat]? = some (if (V2 || (V1 != false)) = true then outM 2 24 [1, 1, 3] else outM 3 24 [1, 2, 3])) := by
  by_cases hb : (!(V2 || (V1 != false)) && V3) = true
  ·left
   have hb2 := hb
   simp only [Bool.and_eq_true, Bool.not_eq_true'] at hb2
   exact ⟨hv.1 hb2.1 (hG.2 hb2.2), hb⟩
  ·right
   refine ⟨Bool.eq_false_iff.2 hb, hv.2 ?_⟩
   simp only [Bool.and_eq_true, Bool.not_eq_true', not_and] at hb
   rcases hq : (V2 || (V1 != false)) with _ | _
   ·right
    have := hb hq
    have h3 : ¬ (50 * pb > 3000) := fun h => this (hG.1 h)
    omega
   ·left; rfl
 clear hv hG
 refine zan Tryz.func5 rfl rfl Tryz.results5 Tryz.ntmps5 rfl rfl ?_
 all_goals repeat' (first | apply zae | apply zaa | apply zah | apply zad | apply zab hT; iterate 4 exact rfl | apply zag; iterate 2 exact rfl | (apply zav; exact rfl; all_goals (intro hb; (try dsimp only at hb); (try simp only [hb]); (first | replace hb := odt hb | replace hb := odf hb ); (try omega))) | (apply zam; exact rfl; all_goals (intro hb; (try dsimp only at hb); (try simp only [hb]); (first | replace hb := odt hb | replace hb := odf hb ); (try omega))))
 all_goals (apply zaz; (iterate 7 exact rfl); exact zdn W _ 0 0 hb0 (.inl rfl); rintro _ _ ⟨A1, c1, A2, c2, rfl, rfl⟩)
 all_goals repeat' (first | (apply zbI hT; (iterate 4 exact rfl); first | exact u1 | exact u2 | exact u3) | apply zae | apply zaa | apply zaj | apply zah | apply zas | apply zaf | apply zad | apply zab hT; iterate 4 exact rfl | apply zaq; iterate 3 exact rfl | apply zau; iterate 2 exact rfl | apply zak; iterate 2 exact rfl | apply zag; iterate 2 exact rfl | apply zaN hT; (iterate 4 exact rfl); (iterate 2 omega) | (apply zav; exact rfl; all_goals (intro hb; (try dsimp only at hb); (try simp only [hb]); (first | replace hb := odt hb | replace hb := odf hb | replace hb := zaD hb | replace hb := zaE hb | replace hb := eq_of_beq hb | replace hb := ne_of_beq_false hb); (try omega))) | (apply zam; exact rfl; all_goals (intro hb; (try dsimp only at hb); (try simp only [hb]); (first | replace hb := odt hb | replace hb := odf hb | replace hb := zaD hb | replace hb := zaE hb | replace hb := eq_of_beq hb | replace hb := ne_of_beq_false hb); (try omega))))
 all_goals (apply zaz; (iterate 7 exact rfl); exact zcq W _ 0 (.inl rfl) A1 A2 c1 c2 (by (repeat (first | exact mcs))) (by (repeat (first | exact mcs | apply mcm))); rintro _ _ ⟨x, b0, q0, rfl, rfl, f0⟩)
 all_goals repeat' (first | apply zae | apply zaa | apply zad | apply zab hT; iterate 4 exact rfl)
 all_goals (apply zao (cs := [.int .i64 0, .int .i64 1, .int .i64 10, .int .i64 12, .int .i64 20]) hT; (iterate 12 exact rfl); intro g1)
 all_goals repeat' (first | (apply zbI hT; (iterate 4 exact rfl); first | exact u1 | exact u2 | exact u3) | apply zae | apply zaa | apply zaj | apply zah | apply zas | apply zaf | apply zad | apply zab hT; iterate 4 exact rfl | apply zaq; iterate 3 exact rfl | apply zau; iterate 2 exact rfl | apply zak; iterate 2 exact rfl | apply zag; iterate 2 exact rfl | apply zaN hT; (iterate 4 exact rfl); (iterate 2 omega) | (apply zav; exact rfl; all_goals (intro hb; (try dsimp only at hb); (try simp only [hb]); (first | replace hb := odt hb | replace hb := odf hb | replace hb := zaD hb | replace hb := zaE hb | replace hb := eq_of_beq hb | replace hb := ne_of_beq_false hb); (try omega))) | (apply zam; exact rfl; all_goals (intro hb; (try dsimp only at hb); (try simp only [hb]); (first | replace hb := odt hb | replace hb := odf hb | replace hb := zaD hb | replace hb := zaE hb | replace hb := eq_of_beq hb | replace hb := ne_of_beq_false hb); (try omega))))
 all_goals (apply zac; (iterate 7 exact rfl); exact ofL W _ g1 5 9 [0, 1, 10, 12, 20] (by (repeat (first | exact mcs))) rfl (Nat.le_of_ble_eq_true rfl))
 all_goals repeat' (first | (apply zbI hT; (iterate 4 exact rfl); first | exact u1 | exact u2 | exact u3) | apply zae | apply zaa | apply zaj | apply zah | apply zas | apply zaf | apply zad | apply zab hT; iterate 4 exact rfl | apply zaq; iterate 3 exact rfl | apply zau; iterate 2 exact rfl | apply zak; iterate 2 exact rfl | apply zag; iterate 2 exact rfl | apply zaN hT; (iterate 4 exact rfl); (iterate 2 omega) | (apply zav; exact rfl; all_goals (intro hb; (try dsimp only at hb); (try simp only [hb]); (first | replace hb := odt hb | replace hb := odf hb | replace hb := zaD hb | replace hb := zaE hb | replace hb := eq_of_beq hb | replace hb := ne_of_beq_false hb); (try omega))) | (apply zam; exact rfl; all_goals (intro hb; (try dsimp only at hb); (try simp only [hb]); (first | replace hb := odt hb | replace hb := odf hb | replace hb := zaD hb | replace hb := zaE hb | replace hb := eq_of_beq hb | replace hb := ne_of_beq_false hb); (try omega))))
 all_goals (apply zaz; (iterate 7 exact rfl); exact zaB.perm (d1 _ (x) b0 q0 f0) (by (try unfold zai); (repeat (first | exact List.Perm.refl _ | (apply zaX; · (repeat (first | exact sel0 | apply selS ))) | (apply za0; · (repeat (first | exact zaP | apply zaT )))))); rintro _ _ ⟨y1, b1, q1, B1, e1, rfl, rfl, f1, v1⟩)
 all_goals repeat' (first | apply zae | apply zaa | apply zad | apply zab hT; iterate 4 exact rfl | apply zaN hT; (iterate 4 exact rfl); (iterate 2 omega))
 all_goals (apply zao (cs := [.int .i64 1, .int .i64 (5 * pa), .int .i64 10]) hT; (iterate 12 exact rfl); intro g2)
 all_goals repeat' (first | (apply zbI hT; (iterate 4 exact rfl); first | exact u1 | exact u2 | exact u3) | apply zae | apply zaa | apply zaj | apply zah | apply zas | apply zaf | apply zad | apply zab hT; iterate 4 exact rfl | apply zaq; iterate 3 exact rfl | apply zau; iterate 2 exact rfl | apply zak; iterate 2 exact rfl | apply zag; iterate 2 exact rfl | apply zaN hT; (iterate 4 exact rfl); (iterate 2 omega) | (apply zav; exact rfl; all_goals (intro hb; (try dsimp only at hb); (try simp only [hb]); (first | replace hb := odt hb | replace hb := odf hb | replace hb := zaD hb | replace hb := zaE hb | replace hb := eq_of_beq hb | replace hb := ne_of_beq_false hb); (try omega))) | (apply zam; exact rfl; all_goals (intro hb; (try dsimp only at hb); (try simp only [hb]); (first | replace hb := odt hb | replace hb := odf hb | replace hb := zaD hb | replace hb := zaE hb | replace hb := eq_of_beq hb | replace hb := ne_of_beq_false hb); (try omega))))
 all_goals (apply zac; (iterate 7 exact rfl); exact ofL W _ g2 3 10 [1, 5 * pa, 10] (by (repeat (first | exact mcs))) rfl (Nat.le_of_ble_eq_true rfl))
 all_goals repeat' (first | (apply zbI hT; (iterate 4 exact rfl); first | exact u1 | exact u2 | exact u3) | apply zae | apply zaa | apply zaj | apply zah | apply zas | apply zaf | apply zad | apply zab hT; iterate 4 exact rfl | apply zaq; iterate 3 exact rfl | apply zau; iterate 2 exact rfl | apply zak; iterate 2 exact rfl | apply zag; iterate 2 exact rfl | apply zaN hT; (iterate 4 exact rfl); (iterate 2 omega) | (apply zav; exact rfl; all_goals (intro hb; (try dsimp only at hb); (try simp only [hb]); (first | replace hb := odt hb | replace hb := odf hb | replace hb := zaD hb | replace hb := zaE hb | replace hb := eq_of_beq hb | replace hb := ne_of_beq_false hb); (try omega))) | (apply zam; exact rfl; all_goals (intro hb; (try dsimp only at hb); (try simp only [hb]); (first | replace hb := odt hb | replace hb := odf hb | replace hb := zaD hb | replace hb := zaE hb | replace hb := eq_of_beq hb | replace hb := ne_of_beq_false hb); (try omega))))
 all_goals (apply zaz; (iterate 7 exact rfl); exact zaB.perm (d2 _ (y1.at x.d) b1 q1 f1) (by (try unfold zai); (repeat (first | exact List.Perm.refl _ | (apply zaX; · (repeat (first | exact sel0 | apply selS ))) | (apply za0; · (repeat (first | exact zaP | apply zaT )))))); rintro _ _ ⟨y2, b2, q2, B2, e2, rfl, rfl, f2, v2⟩)
 all_goals repeat' (first | apply zae | apply zaa | apply zad | apply zab hT; iterate 4 exact rfl | apply zaN hT; (iterate 4 exact rfl); (iterate 2 omega))
 all_goals (apply zao (cs := [.int .i64 1, .int .i64 (5 * pb), .int .i64 10]) hT; (iterate 12 exact rfl); intro g3)
 all_goals repeat' (first | (apply zbI hT; (iterate 4 exact rfl); first | exact u1 | exact u2 | exact u3) | apply zae | apply zaa | apply zaj | apply zah | apply zas | apply zaf | apply zad | apply zab hT; iterate 4 exact rfl | apply zaq; iterate 3 exact rfl | apply zau; iterate 2 exact rfl | apply zak; iterate 2 exact rfl | apply zag; iterate 2 exact rfl | apply zaN hT; (iterate 4 exact rfl); (iterate 2 omega) | (apply zav; exact rfl; all_goals (intro hb; (try dsimp only at hb); (try simp only [hb]); (first | replace hb := odt hb | replace hb := odf hb | replace hb := zaD hb | replace hb := zaE hb | replace hb := eq_of_beq hb | replace hb := ne_of_beq_false hb); (try omega))) | (apply zam; exact rfl; all_goals (intro hb; (try dsimp only at hb); (try simp only [hb]); (first | replace hb := odt hb | replace hb := odf hb | replace hb := zaD hb | replace hb := zaE hb | replace hb := eq_of_beq hb | replace hb := ne_of_beq_false hb); (try omega))))
 all_goals (apply zac; (iterate 7 exact rfl); exact ofL W _ g3 3 10 [1, 5 * pb, 10] (by (repeat (first | exact mcs))) rfl (Nat.le_of_ble_eq_true rfl))
 all_goals repeat' (first | (apply zbI hT; (iterate 4 exact rfl); first | exact u1 | exact u2 | exact u3) | apply zae | apply zaa | apply zaj | apply zah | apply zas | apply zaf | apply zad | apply zab hT; iterate 4 exact rfl | apply zaq; iterate 3 exact rfl | apply zau; iterate 2 exact rfl | apply zak; iterate 2 exact rfl | apply zag; iterate 2 exact rfl | apply zaN hT; (iterate 4 exact rfl); (iterate 2 omega) | (apply zav; exact rfl; all_goals (intro hb; (try dsimp only at hb); (try simp only [hb]); (first | replace hb := odt hb | replace hb := odf hb | replace hb := zaD hb | replace hb := zaE hb | replace hb := eq_of_beq hb | replace hb := ne_of_beq_false hb); (try omega))) | (apply zam; exact rfl; all_goals (intro hb; (try dsimp only at hb); (try simp only [hb]); (first | replace hb := odt hb | replace hb := odf hb | replace hb := zaD hb | replace hb := zaE hb | replace hb := eq_of_beq hb | replace hb := ne_of_beq_false hb); (try omega))))
 all_goals (apply zaz; (iterate 7 exact rfl); exact zaB.perm (d3 _ (y2.at x.d) b2 q2 f2) (by (try unfold zai); (repeat (first | exact List.Perm.refl _ | (apply zaX; · (repeat (first | exact sel0 | apply selS ))) | (apply za0; · (repeat (first | exact zaP | apply zaT )))))); rintro _ _ ⟨y3, b3, q3, B3, e3, rfl, rfl, f3, v3⟩)
 all_goals repeat' (first | apply zae | apply zaa | apply zad | apply zab hT; iterate 4 exact rfl)
 all_goals (apply zao (cs := [.int .i64 1]) hT; (iterate 12 exact rfl); intro g4)
 all_goals repeat' (first | (apply zbI hT; (iterate 4 exact rfl); first | exact u1 | exact u2 | exact u3) | apply zae | apply zaa | apply zaj | apply zah | apply zas | apply zaf | apply zad | apply zab hT; iterate 4 exact rfl | apply zaq; iterate 3 exact rfl | apply zau; iterate 2 exact rfl | apply zak; iterate 2 exact rfl | apply zag; iterate 2 exact rfl | apply zaN hT; (iterate 4 exact rfl); (iterate 2 omega) | (apply zav; exact rfl; all_goals (intro hb; (try dsimp only at hb); (try simp only [hb]); (first | replace hb := odt hb | replace hb := odf hb | replace hb := zaD hb | replace hb := zaE hb | replace hb := eq_of_beq hb | replace hb := ne_of_beq_false hb); (try omega))) | (apply zam; exact rfl; all_goals (intro hb; (try dsimp only at hb); (try simp only [hb]); (first | replace hb := odt hb | replace hb := odf hb | replace hb := zaD hb | replace hb := zaE hb | replace hb := eq_of_beq hb | replace hb := ne_of_beq_false hb); (try omega))))
 all_goals (apply zac; (iterate 7 exact rfl); exact ofL W _ g4 1 13 [1] (by (repeat (first | exact mcs))) rfl (Nat.le_of_ble_eq_true rfl))
 all_goals repeat' (first | (apply zbI hT; (iterate 4 exact rfl); first | exact u1 | exact u2 | exact u3) | apply zae | apply zaa | apply zaj | apply zah | apply zas | apply zaf | apply zad | apply zab hT; iterate 4 exact rfl | apply zaq; iterate 3 exact rfl | apply zau; iterate 2 exact rfl | apply zak; iterate 2 exact rfl | apply zag; iterate 2 exact rfl | apply zaN hT; (iterate 4 exact rfl); (iterate 2 omega) | (apply zav; exact rfl; all_goals (intro hb; (try dsimp only at hb); (try simp only [hb]); (first | replace hb := odt hb | replace hb := odf hb | replace hb := zaD hb | replace hb := zaE hb | replace hb := eq_of_beq hb | replace hb := ne_of_beq_false hb); (try omega))) | (apply zam; exact rfl; all_goals (intro hb; (try dsimp only at hb); (try simp only [hb]); (first | replace hb := odt hb | replace hb := odf hb | replace hb := zaD hb | replace hb := zaE hb | replace hb := eq_of_beq hb | replace hb := ne_of_beq_false hb); (try omega))))
 all_goals (apply zaz; (iterate 7 exact rfl); exact zaB.perm (d4 _ (y3.at x.d) b3 q3 f3) (by (try unfold zai); (repeat (first | exact List.Perm.refl _ | (apply zaX; · (repeat (first | exact sel0 | apply selS ))) | (apply za0; · (repeat (first | exact zaP | apply zaT )))))); rintro _ _ ⟨y4, b4, q4, B4, e4, rfl, rfl, f4, v4⟩)
 all_goals (cases V1 <;> cases V2 <;> cases V3)
 all_goals rcases hcase with ⟨h4, hc⟩ | ⟨hc, h4, l4, o4⟩
 all_goals (first | exfalso; revert hc; decide | exfalso; simp only [decide_eq_true_eq, decide_eq_false_iff_not, beq_iff_eq, beq_eq_false_iff_ne, ne_eq] at u1 u2 u3; omega | skip)
 all_goals first | (rw [l4] at v4 ⊢; have hA4 : B4.isSome = true := v4.some_ (by omega); change _ = some (outM 2 24 [1, 1, 3]) at o4; have hE := zkv (outM 2 24 [1, 1, 3])) | (rw [l4] at v4 ⊢; have hA4 : B4.isSome = true := v4.some_ (by omega); change _ = some (outM 3 24 [1, 2, 3]) at o4; have hE := zkv (outM 3 24 [1, 2, 3])) | skip
 all_goals repeat' (first | (apply zbI hT; (iterate 4 exact rfl); first | exact u1 | exact u2 | exact u3) | apply zae | apply zaa | apply zaj | apply zah | apply zad | apply zab hT; iterate 4 exact rfl | apply zaq; iterate 3 exact rfl | apply zak; iterate 2 exact rfl | apply zag; iterate 2 exact rfl | apply zaN hT; (iterate 4 exact rfl); (iterate 2 omega) | (apply zav; exact rfl; all_goals (intro hb; (try dsimp only at hb); (try simp only [hb]); (first | replace hb := odt hb | replace hb := odf hb ); (try omega))) | (apply zac; (iterate 7 exact rfl); first | exact zin W _ B4 e4 r4.2 l4 h4 (v4.reads (by (repeat (first | exact mcs | apply mcm )))) | exact zbr W _ B4 e4 r4.2 h4 (v4.reads (by (repeat (first | exact mcs | apply mcm ))))) | apply zaS hT; (iterate 8 exact rfl); (iterate 2 omega); exact hA4 | (fail_if_success (have q := gz)); apply zao (cs := [.int .i64 1, .int .i64 2, .int .i64 3]) hT; (iterate 12 exact rfl); intro gz | (fail_if_success (have q := gw)); apply zao (cs := [.int .i64 1, .int .i64 1, .int .i64 3]) hT; (iterate 12 exact rfl); intro gw | ((fail_if_success (have q := gw)); apply zac; (iterate 7 exact rfl); exact ofL W _ gz 3 24 [1, 2, 3] (by (repeat (first | exact mcs | apply mcm ))) rfl (Nat.le_of_ble_eq_true rfl)) | (apply zac; (iterate 7 exact rfl); exact ofL W _ gw 3 24 [1, 1, 3] (by (repeat (first | exact mcs | apply mcm ))) rfl (Nat.le_of_ble_eq_true rfl)) | apply zaO hT (cs := OutR.enc (outM 2 24 [1, 1, 3])); iterate 4 exact rfl | apply zaO hT (cs := OutR.enc (outM 3 24 [1, 2, 3])); iterate 4 exact rfl | apply zaI hT; (iterate 5 exact rfl); intro gt | (apply zaF hT; (iterate 6 exact rfl); (repeat (first | exact sel0 | apply selS )); (iterate 3 exact rfl); exact nle rfl) | apply zaM [] [] hmix; decide +kernel | (apply zal; (iterate 5 exact rfl); first | exact zaY hT rfl rfl (v4.reads (by (repeat (first | exact mcs | apply mcm )))) OutR.enc_len rfl o4 rfl | (apply zaQ hT; exact rfl; exact rfl; (repeat (first | exact mcs )); exact rfl)) | apply znb (n := 5) (hd := [45, 25]) (r := true) hT; (iterate 5 exact rfl); exact hE; decide; exact znc; exact zkt.2 | apply zaz; (iterate 7 exact rfl); exact zcW W _; rintro _ _ ⟨rfl, rfl⟩)
 all_goals (apply ret1; exact rfl; exact ⟨[], zcv, rfl⟩)
set_option maxHeartbeats 8000000 in
theorem zpk (W : World) (pa pb : Int) (V1 V2 V3 : Bool) (pa1 : 1 ≤ pa) (pa2 : pa ≤ 90) (pb1 : 1 ≤ pb) (pb2 : pb ≤ 90) (u1 : decide (pa < pb) = V1) (u2 : (pa == pb) = V2) (u3 : decide (50 * pb > 3000) = V3) : zaB Tryz.prog W 5 [.int .i64 pa, .int .i64 pb, .bool true] [] (fun v _ => v = .bool true) := by
 refine zaB.dropTo ?_
 obtain ⟨hD0, hO0⟩ := zdo (w := 0) (.inl rfl)
 have hb0 : bitI .and .i64 0 3 = 0 := by decide +kernel
 have hv := zpT (sell := true) pa1 pa2 pb1 pb2
 have hF : bstF pa pb true = (V2 || (V1 != true)) := by unfold bstF; rw [u1, u2]
 have hG : (50 * pb > 3000) ↔ V3 = true := by rw [← u3, decide_eq_true_iff]
 rw [hF] at hv
 clear hF
 unfold bstR at hv
 change (_ → _ → zbG (doD false (doD false (doD false (doD false (wayD 0) 0 1 (zaw 9 [0, 2, 10, 12, 20])).1 2 1 (zaw 10 [1, 5 * pa, 10])).1 3 1 (zaw 10 [1, 5 * pb, 10])).1 0 2 (zaw 13 [1])).2 = 14) ∧ (_ → zbG (doD false (doD false (doD false (doD false (wayD 0) 0 1 (zaw 9 [0, 2, 10, 12, 20])).1 2 1 (zaw 10 [1, 5 * pa, 10])).1 3 1 (zaw 10 [1, 5 * pb, 10])).1 0 2 (zaw 13 [1])).2 = 0 ∧ (doD false (doD false (doD false (doD false (wayD 0) 0 1 (zaw 9 [0, 2, 10, 12, 20])).1 2 1 (zaw 10 [1, 5 * pa, 10])).1 3 1 (zaw 10 [1, 5 * pb, 10])).1 0 2 (zaw 13 [1])).2.length = 2 ∧ (doD false (doD false (doD false (doD false (wayD 0) 0 1 (zaw 9 [0, 2, 10, 12, 20])).1 2 1 (zaw 10 [1, 5 * pa, 10])).1 3 1 (zaw 10 [1, 5 * pb, 10])).1 0 2 (zaw 13 [1])).2[(1 : Int).toNat]? = some _) at hv
 have w1 : MsgW (zaw 9 [0, 2, 10, 12, 20]) := by unfold MsgW inW zaw; decide
 have d1 := fun G (x : DAd) b q f => zba W G x (wayD 0) b q (0) hD0 hO0 (by omega) f 0 1 _ w1
 have hD1 := hD0.do' (rf := false) 0 1 (zaw 9 [0, 2, 10, 12, 20])
 have hO1 := hO0.do' (rf := false) hD0 0 1 (zaw 9 [0, 2, 10, 12, 20])
 have w2 : MsgW (zaw 10 [1, 5 * pa, 10]) := zeU (fun n hn => by simp only [List.mem_cons, List.not_mem_nil, or_false] at hn; unfold inW; omega)
 have d2 := fun G (x : DAd) b q f => zba W G x (doD false (wayD 0) 0 1 (zaw 9 [0, 2, 10, 12, 20])).1 b q (0 + 1) hD1 hO1 (by omega) f 2 1 _ w2
 have hD2 := hD1.do' (rf := false) 2 1 (zaw 10 [1, 5 * pa, 10])
 have hO2 := hO1.do' (rf := false) hD1 2 1 (zaw 10 [1, 5 * pa, 10])
 have w3 : MsgW (zaw 10 [1, 5 * pb, 10]) := zeU (fun n hn => by simp only [List.mem_cons, List.not_mem_nil, or_false] at hn; unfold inW; omega)
 have d3 := fun G (x : DAd) b q f => zba W G x (doD false (doD false (wayD 0) 0 1 (zaw 9 [0, 2, 10, 12, 20])).1 2 1 (zaw 10 [1, 5 * pa, 10])).1 b q (0 + 1 + 1) hD2 hO2 (by omega) f 3 1 _ w3
 have hD3 := hD2.do' (rf := false) 3 1 (zaw 10 [1, 5 * pb, 10])
 have hO3 := hO2.do' (rf := false) hD2 3 1 (zaw 10 [1, 5 * pb, 10])
 have w4 : MsgW (zaw 13 [1]) := by unfold MsgW inW zaw; decide
 have d4 := fun G (x : DAd) b q f => zba W G x (doD false (doD false (doD false (wayD 0) 0 1 (zaw 9 [0, 2, 10, 12, 20])).1 2 1 (zaw 10 [1, 5 * pa, 10])).1 3 1 (zaw 10 [1, 5 * pb, 10])).1 b q (0 + 1 + 1 + 1) hD3 hO3 (by omega) f 0 2 _ w4
 have hD4 := hD3.do' (rf := false) 0 2 (zaw 13 [1])
 have hO4 := hO3.do' (rf := false) hD3 0 2 (zaw 13 [1])
 clear hD4 hO4 hD3 hO3 hD2 hO2 hD1 hO1 hD0 hO0
 generalize doD false (wayD 0) 0 1 (zaw 9 [0, 2, 10, 12, 20]) = r1 at *
 generalize doD false r1.1 2 1 (zaw 10 [1, 5 * pa, 10]) = r2 at *
 generalize doD false r2.1 3 1 (zaw 10 [1, 5 * pb, 10]) = r3 at *
 generalize doD false r3.1 0 2 (zaw 13 [1]) = r4 at *
 have hcase : (zbG r4.2 = 14 ∧ (!(V2 || (V1 != true)) && V3) = true) ∨ ((!(V2 || (V1 != true)) && V3) = false ∧ zbG r4.2 = 0 ∧ r4.2.length = 2 ∧ r4.2[(1 : Int).toNat]? = some (if (V2 || (V1 != true)) = true then outM 2 24 [1, 1, 3] else outM 3 24 [1, 2, 3])) := by
  by_cases hb : (!(V2 || (V1 != true)) && V3) = true
  ·left
   have hb2 := hb
   simp only [Bool.and_eq_true, Bool.not_eq_true'] at hb2
   exact ⟨hv.1 hb2.1 (hG.2 hb2.2), hb⟩
  ·right
   refine ⟨Bool.eq_false_iff.2 hb, hv.2 ?_⟩
   simp only [Bool.and_eq_true, Bool.not_eq_true', not_and] at hb
   rcases hq : (V2 || (V1 != true)) with _ | _
   ·right
    have := hb hq
    have h3 : ¬ (50 * pb > 3000) := fun h => this (hG.1 h)
    omega
   ·left; rfl
 clear hv hG
 refine zan Tryz.func5 rfl rfl Tryz.results5 Tryz.ntmps5 rfl rfl ?_
 all_goals repeat' (first | apply zae | apply zaa | apply zah | apply zad | apply zab hT; iterate 4 exact rfl | apply zak; iterate 2 exact rfl | (apply zav; exact rfl; all_goals (intro hb; (try dsimp only at hb); (try simp only [hb]); (first | replace hb := odt hb | replace hb := odf hb ); (try omega))) | (apply zam; exact rfl; all_goals (intro hb; (try dsimp only at hb); (try simp only [hb]); (first | replace hb := odt hb | replace hb := odf hb ); (try omega))))
 all_goals (apply zaz; (iterate 7 exact rfl); exact zdn W _ 0 0 hb0 (.inl rfl); rintro _ _ ⟨A1, c1, A2, c2, rfl, rfl⟩)
 all_goals repeat' (first | (apply zbI hT; (iterate 4 exact rfl); first | exact u1 | exact u2 | exact u3) | apply zae | apply zaa | apply zaj | apply zah | apply zas | apply zaf | apply zad | apply zab hT; iterate 4 exact rfl | apply zaq; iterate 3 exact rfl | apply zau; iterate 2 exact rfl | apply zak; iterate 2 exact rfl | apply zag; iterate 2 exact rfl | apply zaN hT; (iterate 4 exact rfl); (iterate 2 omega) | (apply zav; exact rfl; all_goals (intro hb; (try dsimp only at hb); (try simp only [hb]); (first | replace hb := odt hb | replace hb := odf hb | replace hb := zaD hb | replace hb := zaE hb | replace hb := eq_of_beq hb | replace hb := ne_of_beq_false hb); (try omega))) | (apply zam; exact rfl; all_goals (intro hb; (try dsimp only at hb); (try simp only [hb]); (first | replace hb := odt hb | replace hb := odf hb | replace hb := zaD hb | replace hb := zaE hb | replace hb := eq_of_beq hb | replace hb := ne_of_beq_false hb); (try omega))))
 all_goals (apply zaz; (iterate 7 exact rfl); exact zcq W _ 0 (.inl rfl) A1 A2 c1 c2 (by (repeat (first | exact mcs))) (by (repeat (first | exact mcs | apply mcm))); rintro _ _ ⟨x, b0, q0, rfl, rfl, f0⟩)
 all_goals repeat' (first | apply zae | apply zaa | apply zad | apply zab hT; iterate 4 exact rfl)
 all_goals (apply zao (cs := [.int .i64 0, .int .i64 2, .int .i64 10, .int .i64 12, .int .i64 20]) hT; (iterate 12 exact rfl); intro g1)
 all_goals repeat' (first | (apply zbI hT; (iterate 4 exact rfl); first | exact u1 | exact u2 | exact u3) | apply zae | apply zaa | apply zaj | apply zah | apply zas | apply zaf | apply zad | apply zab hT; iterate 4 exact rfl | apply zaq; iterate 3 exact rfl | apply zau; iterate 2 exact rfl | apply zak; iterate 2 exact rfl | apply zag; iterate 2 exact rfl | apply zaN hT; (iterate 4 exact rfl); (iterate 2 omega) | (apply zav; exact rfl; all_goals (intro hb; (try dsimp only at hb); (try simp only [hb]); (first | replace hb := odt hb | replace hb := odf hb | replace hb := zaD hb | replace hb := zaE hb | replace hb := eq_of_beq hb | replace hb := ne_of_beq_false hb); (try omega))) | (apply zam; exact rfl; all_goals (intro hb; (try dsimp only at hb); (try simp only [hb]); (first | replace hb := odt hb | replace hb := odf hb | replace hb := zaD hb | replace hb := zaE hb | replace hb := eq_of_beq hb | replace hb := ne_of_beq_false hb); (try omega))))
 all_goals (apply zac; (iterate 7 exact rfl); exact ofL W _ g1 5 9 [0, 2, 10, 12, 20] (by (repeat (first | exact mcs))) rfl (Nat.le_of_ble_eq_true rfl))
 all_goals repeat' (first | (apply zbI hT; (iterate 4 exact rfl); first | exact u1 | exact u2 | exact u3) | apply zae | apply zaa | apply zaj | apply zah | apply zas | apply zaf | apply zad | apply zab hT; iterate 4 exact rfl | apply zaq; iterate 3 exact rfl | apply zau; iterate 2 exact rfl | apply zak; iterate 2 exact rfl | apply zag; iterate 2 exact rfl | apply zaN hT; (iterate 4 exact rfl); (iterate 2 omega) | (apply zav; exact rfl; all_goals (intro hb; (try dsimp only at hb); (try simp only [hb]); (first | replace hb := odt hb | replace hb := odf hb | replace hb := zaD hb | replace hb := zaE hb | replace hb := eq_of_beq hb | replace hb := ne_of_beq_false hb); (try omega))) | (apply zam; exact rfl; all_goals (intro hb; (try dsimp only at hb); (try simp only [hb]); (first | replace hb := odt hb | replace hb := odf hb | replace hb := zaD hb | replace hb := zaE hb | replace hb := eq_of_beq hb | replace hb := ne_of_beq_false hb); (try omega))))
 all_goals (apply zaz; (iterate 7 exact rfl); exact zaB.perm (d1 _ (x) b0 q0 f0) (by (try unfold zai); (repeat (first | exact List.Perm.refl _ | (apply zaX; · (repeat (first | exact sel0 | apply selS ))) | (apply za0; · (repeat (first | exact zaP | apply zaT )))))); rintro _ _ ⟨y1, b1, q1, B1, e1, rfl, rfl, f1, v1⟩)
 all_goals repeat' (first | apply zae | apply zaa | apply zad | apply zab hT; iterate 4 exact rfl | apply zaN hT; (iterate 4 exact rfl); (iterate 2 omega))
 all_goals (apply zao (cs := [.int .i64 1, .int .i64 (5 * pa), .int .i64 10]) hT; (iterate 12 exact rfl); intro g2)
 all_goals repeat' (first | (apply zbI hT; (iterate 4 exact rfl); first | exact u1 | exact u2 | exact u3) | apply zae | apply zaa | apply zaj | apply zah | apply zas | apply zaf | apply zad | apply zab hT; iterate 4 exact rfl | apply zaq; iterate 3 exact rfl | apply zau; iterate 2 exact rfl | apply zak; iterate 2 exact rfl | apply zag; iterate 2 exact rfl | apply zaN hT; (iterate 4 exact rfl); (iterate 2 omega) | (apply zav; exact rfl; all_goals (intro hb; (try dsimp only at hb); (try simp only [hb]); (first | replace hb := odt hb | replace hb := odf hb | replace hb := zaD hb | replace hb := zaE hb | replace hb := eq_of_beq hb | replace hb := ne_of_beq_false hb); (try omega))) | (apply zam; exact rfl; all_goals (intro hb; (try dsimp only at hb); (try simp only [hb]); (first | replace hb := odt hb | replace hb := odf hb | replace hb := zaD hb | replace hb := zaE hb | replace hb := eq_of_beq hb | replace hb := ne_of_beq_false hb); (try omega))))
 all_goals (apply zac; (iterate 7 exact rfl); exact ofL W _ g2 3 10 [1, 5 * pa, 10] (by (repeat (first | exact mcs))) rfl (Nat.le_of_ble_eq_true rfl))
 all_goals repeat' (first | (apply zbI hT; (iterate 4 exact rfl); first | exact u1 | exact u2 | exact u3) | apply zae | apply zaa | apply zaj | apply zah | apply zas | apply zaf | apply zad | apply zab hT; iterate 4 exact rfl | apply zaq; iterate 3 exact rfl | apply zau; iterate 2 exact rfl | apply zak; iterate 2 exact rfl | apply zag; iterate 2 exact rfl | apply zaN hT; (iterate 4 exact rfl); (iterate 2 omega) | (apply zav; exact rfl; all_goals (intro hb; (try dsimp only at hb); (try simp only [hb]); (first | replace hb := odt hb | replace hb := odf hb | replace hb := zaD hb | replace hb := zaE hb | replace hb := eq_of_beq hb | replace hb := ne_of_beq_false hb); (try omega))) | (apply zam; exact rfl; all_goals (intro hb; (try dsimp only at hb); (try simp only [hb]); (first | replace hb := odt hb | replace hb := odf hb | replace hb := zaD hb | replace hb := zaE hb | replace hb := eq_of_beq hb | replace hb := ne_of_beq_false hb); (try omega))))
 all_goals (apply zaz; (iterate 7 exact rfl); exact zaB.perm (d2 _ (y1.at x.d) b1 q1 f1) (by (try unfold zai); (repeat (first | exact List.Perm.refl _ | (apply zaX; · (repeat (first | exact sel0 | apply selS ))) | (apply za0; · (repeat (first | exact zaP | apply zaT )))))); rintro _ _ ⟨y2, b2, q2, B2, e2, rfl, rfl, f2, v2⟩)
 all_goals repeat' (first | apply zae | apply zaa | apply zad | apply zab hT; iterate 4 exact rfl | apply zaN hT; (iterate 4 exact rfl); (iterate 2 omega))
 all_goals (apply zao (cs := [.int .i64 1, .int .i64 (5 * pb), .int .i64 10]) hT; (iterate 12 exact rfl); intro g3)
 all_goals repeat' (first | (apply zbI hT; (iterate 4 exact rfl); first | exact u1 | exact u2 | exact u3) | apply zae | apply zaa | apply zaj | apply zah | apply zas | apply zaf | apply zad | apply zab hT; iterate 4 exact rfl | apply zaq; iterate 3 exact rfl | apply zau; iterate 2 exact rfl | apply zak; iterate 2 exact rfl | apply zag; iterate 2 exact rfl | apply zaN hT; (iterate 4 exact rfl); (iterate 2 omega) | (apply zav; exact rfl; all_goals (intro hb; (try dsimp only at hb); (try simp only [hb]); (first | replace hb := odt hb | replace hb := odf hb | replace hb := zaD hb | replace hb := zaE hb | replace hb := eq_of_beq hb | replace hb := ne_of_beq_false hb); (try omega))) | (apply zam; exact rfl; all_goals (intro hb; (try dsimp only at hb); (try simp only [hb]); (first | replace hb := odt hb | replace hb := odf hb | replace hb := zaD hb | replace hb := zaE hb | replace hb := eq_of_beq hb | replace hb := ne_of_beq_false hb); (try omega))))
 all_goals (apply zac; (iterate 7 exact rfl); exact ofL W _ g3 3 10 [1, 5 * pb, 10] (by (repeat (first | exact mcs))) rfl (Nat.le_of_ble_eq_true rfl))
 all_goals repeat' (first | (apply zbI hT; (iterate 4 exact rfl); first | exact u1 | exact u2 | exact u3) | apply zae | apply zaa | apply zaj | apply zah | apply zas | apply zaf | apply zad | apply zab hT; iterate 4 exact rfl | apply zaq; iterate 3 exact rfl | apply zau; iterate 2 exact rfl | apply zak; iterate 2 exact rfl | apply zag; iterate 2 exact rfl | apply zaN hT; (iterate 4 exact rfl); (iterate 2 omega) | (apply zav; exact rfl; all_goals (intro hb; (try dsimp only at hb); (try simp only [hb]); (first | replace hb := odt hb | replace hb := odf hb | replace hb := zaD hb | replace hb := zaE hb | replace hb := eq_of_beq hb | replace hb := ne_of_beq_false hb); (try omega))) | (apply zam; exact rfl; all_goals (intro hb; (try dsimp only at hb); (try simp only [hb]); (first | replace hb := odt hb | replace hb := odf hb | replace hb := zaD hb | replace hb := zaE hb | replace hb := eq_of_beq hb | replace hb := ne_of_beq_false hb); (try omega))))
 all_goals (apply zaz; (iterate 7 exact rfl); exact zaB.perm (d3 _ (y2.at x.d) b2 q2 f2) (by (try unfold zai); (repeat (first | exact List.Perm.refl _ | (apply zaX; · (repeat (first | exact sel0 | apply selS ))) | (apply za0; · (repeat (first | exact zaP | apply zaT )))))); rintro _ _ ⟨y3, b3, q3, B3, e3, rfl, rfl, f3, v3⟩)
 all_goals repeat' (first | apply zae | apply zaa | apply zad | apply zab hT; iterate 4 exact rfl)
 all_goals (apply zao (cs := [.int .i64 1]) hT; (iterate 12 exact rfl); intro g4)
 all_goals repeat' (first | (apply zbI hT; (iterate 4 exact rfl); first | exact u1 | exact u2 | exact u3) | apply zae | apply zaa | apply zaj | apply zah | apply zas | apply zaf | apply zad | apply zab hT; iterate 4 exact rfl | apply zaq; iterate 3 exact rfl | apply zau; iterate 2 exact rfl | apply zak; iterate 2 exact rfl | apply zag; iterate 2 exact rfl | apply zaN hT; (iterate 4 exact rfl); (iterate 2 omega) | (apply zav; exact rfl; all_goals (intro hb; (try dsimp only at hb); (try simp only [hb]); (first | replace hb := odt hb | replace hb := odf hb | replace hb := zaD hb | replace hb := zaE hb | replace hb := eq_of_beq hb | replace hb := ne_of_beq_false hb); (try omega))) | (apply zam; exact rfl; all_goals (intro hb; (try dsimp only at hb); (try simp only [hb]); (first | replace hb := odt hb | replace hb := odf hb | replace hb := zaD hb | replace hb := zaE hb | replace hb := eq_of_beq hb | replace hb := ne_of_beq_false hb); (try omega))))
 all_goals (apply zac; (iterate 7 exact rfl); exact ofL W _ g4 1 13 [1] (by (repeat (first | exact mcs))) rfl (Nat.le_of_ble_eq_true rfl))
 all_goals repeat' (first | (apply zbI hT; (iterate 4 exact rfl); first | exact u1 | exact u2 | exact u3) | apply zae | apply zaa | apply zaj | apply zah | apply zas | apply zaf | apply zad | apply zab hT; iterate 4 exact rfl | apply zaq; iterate 3 exact rfl | apply zau; iterate 2 exact rfl | apply zak; iterate 2 exact rfl | apply zag; iterate 2 exact rfl | apply zaN hT; (iterate 4 exact rfl); (iterate 2 omega) | (apply zav; exact rfl; all_goals (intro hb; (try dsimp only at hb); (try simp only [hb]); (first | replace hb := odt hb | replace hb := odf hb | replace hb := zaD hb | replace hb := zaE hb | replace hb := eq_of_beq hb | replace hb := ne_of_beq_false hb); (try omega))) | (apply zam; exact rfl; all_goals (intro hb; (try dsimp only at hb); (try simp only [hb]); (first | replace hb := odt hb | replace hb := odf hb | replace hb := zaD hb | replace hb := zaE hb | replace hb := eq_of_beq hb | replace hb := ne_of_beq_false hb); (try omega))))
 all_goals (apply zaz; (iterate 7 exact rfl); exact zaB.perm (d4 _ (y3.at x.d) b3 q3 f3) (by (try unfold zai); (repeat (first | exact List.Perm.refl _ | (apply zaX; · (repeat (first | exact sel0 | apply selS ))) | (apply za0; · (repeat (first | exact zaP | apply zaT )))))); rintro _ _ ⟨y4, b4, q4, B4, e4, rfl, rfl, f4, v4⟩)
 all_goals (cases V1 <;> cases V2 <;> cases V3)
 all_goals rcases hcase with ⟨h4, hc⟩ | ⟨hc, h4, l4, o4⟩
 all_goals (first | exfalso; revert hc; decide | exfalso; simp only [decide_eq_true_eq, decide_eq_false_iff_not, beq_iff_eq, beq_eq_false_iff_ne, ne_eq] at u1 u2 u3; omega | skip)
 all_goals first | (rw [l4] at v4 ⊢; have hA4 : B4.isSome = true := v4.some_ (by omega); change _ = some (outM 2 24 [1, 1, 3]) at o4; have hE := zkv (outM 2 24 [1, 1, 3])) | (rw [l4] at v4 ⊢; have hA4 : B4.isSome = true := v4.some_ (by omega); change _ = some (outM 3 24 [1, 2, 3]) at o4; have hE := zkv (outM 3 24 [1, 2, 3])) | skip
 all_goals repeat' (first | (apply zbI hT; (iterate 4 exact rfl); first | exact u1 | exact u2 | exact u3) | apply zae | apply zaa | apply zaj | apply zah | apply zad | apply zab hT; iterate 4 exact rfl | apply zaq; iterate 3 exact rfl | apply zak; iterate 2 exact rfl | apply zag; iterate 2 exact rfl | apply zaN hT; (iterate 4 exact rfl); (iterate 2 omega) | (apply zav; exact rfl; all_goals (intro hb; (try dsimp only at hb); (try simp only [hb]); (first | replace hb := odt hb | replace hb := odf hb ); (try omega))) | (apply zac; (iterate 7 exact rfl); first | exact zin W _ B4 e4 r4.2 l4 h4 (v4.reads (by (repeat (first | exact mcs | apply mcm )))) | exact zbr W _ B4 e4 r4.2 h4 (v4.reads (by (repeat (first | exact mcs | apply mcm ))))) | apply zaS hT; (iterate 8 exact rfl); (iterate 2 omega); exact hA4 | (fail_if_success (have q := gz)); apply zao (cs := [.int .i64 1, .int .i64 2, .int .i64 3]) hT; (iterate 12 exact rfl); intro gz | (fail_if_success (have q := gw)); apply zao (cs := [.int .i64 1, .int .i64 1, .int .i64 3]) hT; (iterate 12 exact rfl); intro gw | ((fail_if_success (have q := gw)); apply zac; (iterate 7 exact rfl); exact ofL W _ gz 3 24 [1, 2, 3] (by (repeat (first | exact mcs | apply mcm ))) rfl (Nat.le_of_ble_eq_true rfl)) | (apply zac; (iterate 7 exact rfl); exact ofL W _ gw 3 24 [1, 1, 3] (by (repeat (first | exact mcs | apply mcm ))) rfl (Nat.le_of_ble_eq_true rfl)) | apply zaO hT (cs := OutR.enc (outM 2 24 [1, 1, 3])); iterate 4 exact rfl | apply zaO hT (cs := OutR.enc (outM 3 24 [1, 2, 3])); iterate 4 exact rfl | apply zaI hT; (iterate 5 exact rfl); intro gt | (apply zaF hT; (iterate 6 exact rfl); (repeat (first | exact sel0 | apply selS )); (iterate 3 exact rfl); exact nle rfl) | apply zaM [] [] hmix; decide +kernel | (apply zal; (iterate 5 exact rfl); first | exact zaY hT rfl rfl (v4.reads (by (repeat (first | exact mcs | apply mcm )))) OutR.enc_len rfl o4 rfl | (apply zaQ hT; exact rfl; exact rfl; (repeat (first | exact mcs )); exact rfl)) | apply znb (n := 5) (hd := [45, 25]) (r := true) hT; (iterate 5 exact rfl); exact hE; decide; exact znc; exact zkt.2 | apply zaz; (iterate 7 exact rfl); exact zcW W _; rintro _ _ ⟨rfl, rfl⟩)
 all_goals (apply ret1; exact rfl; exact ⟨[], zcv, rfl⟩)
theorem zom (W : World) (pa pb : Int) (sell : Bool) : zaB Tryz.prog W 5 [.int .i64 pa, .int .i64 pb, .bool sell] [] (fun v _ => v = .bool true) := by
 by_cases h : pa < 1 ∨ 90 < pa ∨ pb < 1 ∨ 90 < pb
 ·exact bstX W pa pb sell h
 ·cases sell
  ·exact zol W pa pb _ _ _ (by omega) (by omega) (by omega) (by omega) rfl rfl rfl
  ·exact zpk W pa pb _ _ _ (by omega) (by omega) (by omega) (by omega) rfl rfl rfl
end Go.Proofs.YtakilgkpfjhfdaaGreat
namespace Go.Proofs.YtakilgkpfjhfdaaGreat
namespace deskBest
open Go Go.Sl Go.ChangeShapes Go.WideShapes Go.ChangeAt Go.RowKit
theorem own : ownKnob Tryz.prog.godebug = none := by kernel_rfl
theorem zdd : laidOutB Tryz.prog = true := by kernel_rfl
set_option maxRecDepth 100000 in
theorem zeg (os : Os) (started : os.Started) (H : Type) (enc : TypeId × Value → H) :
 ReturnsInHanded {} Tryz.checked os 5 .any (Rows.deskBestSpec.pre6 enc Tryz.prog Tryz.f5 Rows.deskBestRow.domain false) (Rows.deskBestSpec.post enc Tryz.prog Tryz.f5 false true false false) := by
 refine returnsInHanded_of_change (C := Tryz.checked) own started (by kernel_rfl) Tryz.func5
  (ChangeSpec.witness6 (enc := enc) (C := Tryz.checked) false ⟨#[], #[.int .i64 0, .int .i64 0, .bool false], []⟩ 8 (by kernel_rfl) (by kernel_rfl) (by kernel_rfl) (by kernel_rfl)) ?_
 intro W base args ds gs before hval0 hW hcnd _
 have hval : ∀ (j : Nat) t v, Tryz.f5.params[j]? = some t → args[j]? = some v → Value.okWide Tryz.prog W .any base t v := hval0
 have hW' := hW
 obtain ⟨p, q, hA0, hV, rfl, hfz, hnd⟩ := hW
 have hA : DataW.TrodAll enc Tryz.prog W 0 (fun _ => true) true Tryz.f5.params.toList args.toList ds p := hA0
 obtain ⟨rfl, rfl⟩ := trodVars_none hV
 simp only [List.append_nil] at hW'
 have hA1 := hA
 rw [Tryz.params5] at hA1 hval
 obtain ⟨v0, vs0, d0, ds0, p0, q0, hargs, rfl, rfl, h0, r0⟩ := trodAll_cons hA1
 obtain ⟨v1, vs1, d1, ds1, p1, q1, rfl, rfl, rfl, h1, r1⟩ := trodAll_cons r0
 obtain ⟨v2, vs2, d2, ds2, p2, q2, rfl, rfl, rfl, h2, r2⟩ := trodAll_cons r1
 obtain ⟨rfl, rfl, rfl⟩ := trodAll_nil r2
 obtain rfl : args = #[v0, v1, v2] := by cases args; simp_all
 obtain ⟨a0, rfl, _, _, w0⟩ := open_int Tryz.underlying2 (hval 0 2 v0 rfl rfl) h0
 obtain ⟨a1, rfl, _, _, w1⟩ := open_int Tryz.underlying2 (hval 1 2 v1 rfl rfl) h1
 obtain ⟨a2, rfl, _, _⟩ := open_bool Tryz.underlying4 (hval 2 4 v2 rfl rfl) h2
 refine (zaB.row (zom W a0 a1 a2) (fun _ _ h => h)).mono fun e W' ⟨he, hb⟩ => ?_
 subst he
 exact ⟨_, rfl, zen hW' hA zdd (by kernel_rfl) rfl rfl Tryz.underlying4 rfl rfl rfl hb⟩
theorem zg2 : Tryz.prog.funcNamed Rows.deskBestRow.func = some 5 := by kernel_rfl
set_option maxRecDepth 100000 in
set_option maxHeartbeats 8000000 in
theorem zeh : joinedFacts Tryz.prog 5 Tryz.f5 Rows.deskBestSpec Rows.deskBestRow = true := by
 unfold joinedFacts
 simp only [Bool.and_eq_true]
 repeat' apply And.intro
 all_goals decide +kernel
theorem inst : Tryz.f5.isInstance Tryz.prog Rows.deskBestRow.origin Rows.deskBestRow.targs := odt (by kernel_rfl)
theorem over : Rows.deskBestRow.holds Tryz.pinned (OpenSpec.ofChange Rows.deskBestSpec) :=
 OpenClaim.holds_of_wide 5 Tryz.f5 rfl rfl rfl rfl rfl rfl rfl ⟨rfl, rfl, rfl, rfl, rfl⟩ rfl rfl rfl rfl rfl zg2 Tryz.func5 zeh
  inst (by unfold Func.isWrapper; first | (rw [if_pos (by decide +kernel)]; kernel_rfl) | (rw [if_neg (by decide +kernel)]; exact ⟨rfl, rfl⟩))
  (fun os started H enc _ => zeg os started H enc)
end deskBest
theorem deskBest_holds : Rows.DeskBestSaid := deskBest.over
#print axioms deskBest_holds
end Go.Proofs.YtakilgkpfjhfdaaGreat
