/- The statements' walks, and what they stand on, joined into few texts: the last of DeskTimes. Conditions stand in each statement. -/
import Derived.Test.YtakilgkpfjhfdaaGreatBndF6
set_option linter.all false
namespace Go.Proofs.YtakilgkpfjhfdaaGreat
open Go Go.Sl
attribute [local irreducible] AW ES EP Ld RetQ
set_option maxRecDepth 100000
theorem zbr (W : World) (h : List zax) (A : Option Addr) (c : Nat) (o : List OutR) {n : Int} (he : zbG o = n) (hr : zaJ W h A o.length 8 (o.flatMap OutR.enc)) : zaL Tryz.prog W 16 [.slice A o.length c] h (.int .i64 n) := he ▸ zhM W h A c o hr
theorem all2 {f : Int → Int → Bool} {o m n : Nat} (h : (List.range m).all (fun p => (List.range n).all fun q => f ((p : Int) + (o + 1)) ((q : Int) + 1)) = true) {p q : Int} (hp : o + 1 ≤ p) (hp2 : p ≤ o + m) (hq : 1 ≤ q) (hq2 : q ≤ n) : f p q = true := by
 have h1 := List.all_eq_true.1 h (p - (o + 1)).toNat (List.mem_range.2 (by omega))
 have h2 := List.all_eq_true.1 h1 (q - 1).toNat (List.mem_range.2 (by omega))
 rw [show (((p - (o + 1)).toNat : Nat) : Int) + (o + 1) = p by omega, show (((q - 1).toNat : Nat) : Int) + 1 = q by omega] at h2
 exact h2
def timS (l w : Int) : Dk := (doD false (doD false (wayD 0) 0 1 (zaw 9 [0, 1, 10, 4, w])).1 2 1 (zaw 10 [1, 100, l])).1
def tk (s : Dk) : Dk := (zcB false s).1
def timO (b : Bool) : OutR := if b then outM 0 27 [1] else outM 0 25 [1, 1]
def zoq (l w : Int) (t : Nat) (s : Dk) : Bool :=
 let H := doD false s 0 2 (zaw 12 [1])
 if (t : Int) ≥ w then zbG H.2 == 4 else if (t : Int) ≥ l then zbG H.2 == 12 else
  zbG H.2 == 0 && ((zcB false H.1).2.length == 0 && ((zcB false (tk H.1)).2.length == 0 && (decide ((zcB false (tk (tk H.1))).2 = [timO (decide ((t : Int) + 3 ≥ w))]) &&
  zbG (doD false (tk (tk (tk H.1))) 2 2 (zaw 14 [1])).2 == 11)))
def zor (l w : Int) : Nat → Nat → Dk → Bool
 | 0, _, _ => true
 | n + 1, t, s => zoq l w t s && zor l w n (t + 1) (tk s)
def zjV (l w : Int) : Bool := zor l w 41 0 (timS l w)
theorem tim0 : (List.range 5).all (fun p => (List.range 30).all fun q => zjV ((p : Int) + ((0 : Nat) + 1)) ((q : Int) + 1)) = true := by decide +kernel
theorem tim1 : (List.range 5).all (fun p => (List.range 30).all fun q => zjV ((p : Int) + ((5 : Nat) + 1)) ((q : Int) + 1)) = true := by decide +kernel
theorem tim2 : (List.range 5).all (fun p => (List.range 30).all fun q => zjV ((p : Int) + ((10 : Nat) + 1)) ((q : Int) + 1)) = true := by decide +kernel
theorem tim3 : (List.range 5).all (fun p => (List.range 30).all fun q => zjV ((p : Int) + ((15 : Nat) + 1)) ((q : Int) + 1)) = true := by decide +kernel
theorem tim4 : (List.range 5).all (fun p => (List.range 30).all fun q => zjV ((p : Int) + ((20 : Nat) + 1)) ((q : Int) + 1)) = true := by decide +kernel
theorem tim5 : (List.range 5).all (fun p => (List.range 30).all fun q => zjV ((p : Int) + ((25 : Nat) + 1)) ((q : Int) + 1)) = true := by decide +kernel
theorem zpp {p q : Int} (h1 : 1 ≤ p) (h2 : p ≤ 30) (h3 : 1 ≤ q) (h4 : q ≤ 30) : zjV p q = true := by
 by_cases k0 : p ≤ 5
 ·exact all2 tim0 (by omega) (by omega) h3 (by omega)
 by_cases k1 : p ≤ 10
 ·exact all2 tim1 (by omega) (by omega) h3 (by omega)
 by_cases k2 : p ≤ 15
 ·exact all2 tim2 (by omega) (by omega) h3 (by omega)
 by_cases k3 : p ≤ 20
 ·exact all2 tim3 (by omega) (by omega) h3 (by omega)
 by_cases k4 : p ≤ 25
 ·exact all2 tim4 (by omega) (by omega) h3 (by omega)
 exact all2 tim5 (by omega) (by omega) h3 (by omega)
theorem zkw (s : Dk) : ∀ k, (zbR k (tk s)).1 = (zbR (k + 1) s).1
 | 0 => rfl
 | k + 1 => by
   have h := zkw s k
   show (zcB false (zbR k (tk s)).1).1 = (zcB false (zbR (k + 1) s).1).1
   rw [h]
theorem zkx {l w : Int} : ∀ {n t : Nat} {s : Dk}, zor l w n t s = true → ∀ j, j < n → zoq l w (t + j) (zbR j s).1 = true
 | 0, _, _, _, j, hj => by omega
 | n + 1, t, s, h, j, hj => by
   unfold zor at h
   rw [Bool.and_eq_true] at h
   cases j with
   | zero => exact h.1
   | succ j =>
     have := zkx h.2 j (by omega)
     rw [zkw] at this
     rw [show t + (j + 1) = t + 1 + j by omega]
     exact this
theorem zrh {l w : Int} {t : Nat} (h1 : 1 ≤ l) (h2 : l ≤ 30) (h3 : 1 ≤ w) (h4 : w ≤ 30) (ht : t ≤ 40) : zoq l w t (zbR t (timS l w)).1 = true := by
 have := zkx (zpp h1 h2 h3 h4) t (by omega)
 rwa [Nat.zero_add] at this
set_option maxHeartbeats 4000000 in
theorem timX (W : World) (ticks life window : Int) (hx : ticks < 0 ∨ 40 < ticks ∨ life < 1 ∨ 30 < life ∨ window < 1 ∨ 30 < window) : zaB Tryz.prog W 9 [.int .i64 ticks, .int .i64 life, .int .i64 window] [] (fun v _ => v = .bool true) := by
 refine zaB.dropTo ?_
 refine zan Tryz.func9 rfl rfl Tryz.results9 Tryz.ntmps9 rfl rfl ?_
 all_goals repeat' (first | apply zae | apply zaa | apply zaj | apply zad | apply zab hT; iterate 4 exact rfl | apply zaq; iterate 3 exact rfl | apply zak; iterate 2 exact rfl | (apply zav; exact rfl; all_goals (intro hb; (try dsimp only at hb); (try simp only [hb]); (first | replace hb := odt hb | replace hb := odf hb ); (try omega))) | (apply zam; exact rfl; all_goals (intro hb; (try dsimp only at hb); (try simp only [hb]); (first | replace hb := odt hb | replace hb := odf hb ); (try omega))))
 all_goals (apply ret1; exact rfl; exact ⟨[], zcv, rfl⟩)
set_option maxHeartbeats 8000000 in
theorem zri (W : World) (n : Nat) (life window : Int) (hn : n ≤ 40) (l1 : 1 ≤ life) (l2 : life ≤ 30) (p1 : 1 ≤ window) (p2 : window ≤ 30) : zaB Tryz.prog W 9 [.int .i64 (n : Int), .int .i64 life, .int .i64 window] [] (fun v _ => v = .bool true) := by
 refine zaB.dropTo ?_
 obtain ⟨hD0, hO0⟩ := zdo (w := 0) (.inl rfl)
 have hb0 : bitI .and .i64 0 3 = 0 := by decide +kernel
 have w1 : MsgW (zaw 9 [0, 1, 10, 4, window]) := zeU (fun n hn => by simp only [List.mem_cons, List.not_mem_nil, or_false] at hn; unfold inW; omega)
 have d1 := fun G (x : DAd) b q f => zba W G x (wayD 0) b q (0) hD0 hO0 (by omega) f 0 1 _ w1
 have hD1 := hD0.do' (rf := false) 0 1 (zaw 9 [0, 1, 10, 4, window])
 have hO1 := hO0.do' (rf := false) hD0 0 1 (zaw 9 [0, 1, 10, 4, window])
 have w2 : MsgW (zaw 10 [1, 100, life]) := zeU (fun n hn => by simp only [List.mem_cons, List.not_mem_nil, or_false] at hn; unfold inW; omega)
 have d2 := fun G (x : DAd) b q f => zba W G x (doD false (wayD 0) 0 1 (zaw 9 [0, 1, 10, 4, window])).1 b q (0 + 1) hD1 hO1 (by omega) f 2 1 _ w2
 have hD2 := hD1.do' (rf := false) 2 1 (zaw 10 [1, 100, life])
 have hO2 := hO1.do' (rf := false) hD1 2 1 (zaw 10 [1, 100, life])
 have hck := zrh l1 l2 p1 p2 hn
 unfold zoq timS tk at hck
 dsimp only at hck
 have hTk := fun k => zik hD2 hO2 k
 clear hD2 hO2 hD1 hO1 hD0 hO0
 generalize doD false (wayD 0) 0 1 (zaw 9 [0, 1, 10, 4, window]) = r1 at *
 generalize doD false r1.1 2 1 (zaw 10 [1, 100, life]) = r2 at *
 refine zan Tryz.func9 rfl rfl Tryz.results9 Tryz.ntmps9 rfl rfl ?_
 all_goals repeat' (first | apply zae | apply zaa | apply zah | apply zad | apply zab hT; iterate 4 exact rfl | (apply zav; exact rfl; all_goals (intro hb; (try dsimp only at hb); (try simp only [hb]); (first | replace hb := odt hb | replace hb := odf hb ); (try omega))) | (apply zam; exact rfl; all_goals (intro hb; (try dsimp only at hb); (try simp only [hb]); (first | replace hb := odt hb | replace hb := odf hb ); (try omega))))
 all_goals (apply zaz; (iterate 7 exact rfl); exact zdn W _ 0 0 hb0 (.inl rfl); rintro _ _ ⟨A1, c1, A2, c2, rfl, rfl⟩)
 all_goals repeat' (first | apply zae | apply zaa | apply zaj | apply zah | apply zas | apply zaf | apply zad | apply zab hT; iterate 4 exact rfl | apply zaq; iterate 3 exact rfl | apply zau; iterate 2 exact rfl | apply zak; iterate 2 exact rfl | apply zag; iterate 2 exact rfl | apply zaN hT; (iterate 4 exact rfl); (iterate 2 omega) | (apply zav; exact rfl; all_goals (intro hb; (try dsimp only at hb); (try simp only [hb]); (first | replace hb := odt hb | replace hb := odf hb | replace hb := zaD hb | replace hb := zaE hb | replace hb := eq_of_beq hb | replace hb := ne_of_beq_false hb); (try omega))) | (apply zam; exact rfl; all_goals (intro hb; (try dsimp only at hb); (try simp only [hb]); (first | replace hb := odt hb | replace hb := odf hb | replace hb := zaD hb | replace hb := zaE hb | replace hb := eq_of_beq hb | replace hb := ne_of_beq_false hb); (try omega))))
 all_goals (apply zaz; (iterate 7 exact rfl); exact zcq W _ 0 (.inl rfl) A1 A2 c1 c2 (by (repeat (first | exact mcs))) (by (repeat (first | exact mcs | apply mcm))); rintro _ _ ⟨x, b0, q0, rfl, rfl, f0⟩)
 all_goals repeat' (first | apply zae | apply zaa | apply zad | apply zab hT; iterate 4 exact rfl)
 all_goals (apply zao (cs := [.int .i64 0, .int .i64 1, .int .i64 10, .int .i64 4, .int .i64 window]) hT; (iterate 12 exact rfl); intro g1)
 all_goals repeat' (first | apply zae | apply zaa | apply zaj | apply zah | apply zas | apply zaf | apply zad | apply zab hT; iterate 4 exact rfl | apply zaq; iterate 3 exact rfl | apply zau; iterate 2 exact rfl | apply zak; iterate 2 exact rfl | apply zag; iterate 2 exact rfl | apply zaN hT; (iterate 4 exact rfl); (iterate 2 omega) | (apply zav; exact rfl; all_goals (intro hb; (try dsimp only at hb); (try simp only [hb]); (first | replace hb := odt hb | replace hb := odf hb | replace hb := zaD hb | replace hb := zaE hb | replace hb := eq_of_beq hb | replace hb := ne_of_beq_false hb); (try omega))) | (apply zam; exact rfl; all_goals (intro hb; (try dsimp only at hb); (try simp only [hb]); (first | replace hb := odt hb | replace hb := odf hb | replace hb := zaD hb | replace hb := zaE hb | replace hb := eq_of_beq hb | replace hb := ne_of_beq_false hb); (try omega))))
 all_goals (apply zac; (iterate 7 exact rfl); exact ofL W _ g1 5 9 [0, 1, 10, 4, window] (by (repeat (first | exact mcs))) rfl (Nat.le_of_ble_eq_true rfl))
 all_goals repeat' (first | apply zae | apply zaa | apply zaj | apply zah | apply zas | apply zaf | apply zad | apply zab hT; iterate 4 exact rfl | apply zaq; iterate 3 exact rfl | apply zau; iterate 2 exact rfl | apply zak; iterate 2 exact rfl | apply zag; iterate 2 exact rfl | apply zaN hT; (iterate 4 exact rfl); (iterate 2 omega) | (apply zav; exact rfl; all_goals (intro hb; (try dsimp only at hb); (try simp only [hb]); (first | replace hb := odt hb | replace hb := odf hb | replace hb := zaD hb | replace hb := zaE hb | replace hb := eq_of_beq hb | replace hb := ne_of_beq_false hb); (try omega))) | (apply zam; exact rfl; all_goals (intro hb; (try dsimp only at hb); (try simp only [hb]); (first | replace hb := odt hb | replace hb := odf hb | replace hb := zaD hb | replace hb := zaE hb | replace hb := eq_of_beq hb | replace hb := ne_of_beq_false hb); (try omega))))
 all_goals (apply zaz; (iterate 7 exact rfl); exact zaB.perm (d1 _ (x) b0 q0 f0) (by (try unfold zai); (repeat (first | exact List.Perm.refl _ | (apply zaX; · (repeat (first | exact sel0 | apply selS ))) | (apply za0; · (repeat (first | exact zaP | apply zaT )))))); rintro _ _ ⟨y1, b1, q1, B1, e1, rfl, rfl, f1, v1⟩)
 all_goals repeat' (first | apply zae | apply zaa | apply zad | apply zab hT; iterate 4 exact rfl)
 all_goals (apply zao (cs := [.int .i64 1, .int .i64 100, .int .i64 life]) hT; (iterate 12 exact rfl); intro g2)
 all_goals repeat' (first | apply zae | apply zaa | apply zaj | apply zah | apply zas | apply zaf | apply zad | apply zab hT; iterate 4 exact rfl | apply zaq; iterate 3 exact rfl | apply zau; iterate 2 exact rfl | apply zak; iterate 2 exact rfl | apply zag; iterate 2 exact rfl | apply zaN hT; (iterate 4 exact rfl); (iterate 2 omega) | (apply zav; exact rfl; all_goals (intro hb; (try dsimp only at hb); (try simp only [hb]); (first | replace hb := odt hb | replace hb := odf hb | replace hb := zaD hb | replace hb := zaE hb | replace hb := eq_of_beq hb | replace hb := ne_of_beq_false hb); (try omega))) | (apply zam; exact rfl; all_goals (intro hb; (try dsimp only at hb); (try simp only [hb]); (first | replace hb := odt hb | replace hb := odf hb | replace hb := zaD hb | replace hb := zaE hb | replace hb := eq_of_beq hb | replace hb := ne_of_beq_false hb); (try omega))))
 all_goals (apply zac; (iterate 7 exact rfl); exact ofL W _ g2 3 10 [1, 100, life] (by (repeat (first | exact mcs))) rfl (Nat.le_of_ble_eq_true rfl))
 all_goals repeat' (first | apply zae | apply zaa | apply zaj | apply zah | apply zas | apply zaf | apply zad | apply zab hT; iterate 4 exact rfl | apply zaq; iterate 3 exact rfl | apply zau; iterate 2 exact rfl | apply zak; iterate 2 exact rfl | apply zag; iterate 2 exact rfl | apply zaN hT; (iterate 4 exact rfl); (iterate 2 omega) | (apply zav; exact rfl; all_goals (intro hb; (try dsimp only at hb); (try simp only [hb]); (first | replace hb := odt hb | replace hb := odf hb | replace hb := zaD hb | replace hb := zaE hb | replace hb := eq_of_beq hb | replace hb := ne_of_beq_false hb); (try omega))) | (apply zam; exact rfl; all_goals (intro hb; (try dsimp only at hb); (try simp only [hb]); (first | replace hb := odt hb | replace hb := odf hb | replace hb := zaD hb | replace hb := zaE hb | replace hb := eq_of_beq hb | replace hb := ne_of_beq_false hb); (try omega))))
 all_goals (apply zaz; (iterate 7 exact rfl); exact zaB.perm (d2 _ (y1.at x.d) b1 q1 f1) (by (try unfold zai); (repeat (first | exact List.Perm.refl _ | (apply zaX; · (repeat (first | exact sel0 | apply selS ))) | (apply za0; · (repeat (first | exact zaP | apply zaT )))))); rintro _ _ ⟨y2, b2, q2, B2, e2, rfl, rfl, f2, v2⟩)
 all_goals repeat' (first | apply zae | apply zaa | apply zaf | apply zad | apply zab hT; iterate 4 exact rfl)
 refine zbj (α := Nat × DAd × List BAd × List PRow) (E := fun z => [(0, .int .i64 (n : Int)), (1, .int .i64 life), (2, .int .i64 window), (7, ptrV x.d), (8, .int .i64 (z.1 : Int))])
  (H := fun z => zai (z.2.1.at x.d) (zbR z.1 r2.1).1 z.2.2.1 z.2.2.2 []) (μ := fun z => n - z.1)
  (S := fun z => z.1 ≤ n ∧ za6 (zbR z.1 r2.1).1 z.2.2.1 z.2.2.2) (0, y2, b2, q2) ⟨Nat.zero_le _, f2⟩ ⟨rfl, rfl, rfl, rfl, rfl, trivial⟩ ?_ ?_
 ·show zbk _ (zai (y2.at x.d) r2.1 b2 q2 [])
  unfold zai
  (repeat (first | exact zcv | (apply zay; · (repeat (first | exact sel0 | apply selS ))) | (apply za1; · (repeat (first | exact zaP | apply zaT )))))
 ·rintro ⟨k, z, b3, q3⟩ ⟨hk, hf⟩
  dsimp only at hk hf ⊢
  obtain ⟨hDk, hOk⟩ := hTk k
  by_cases hlt : k < n
  ·have dk := fun G => zgZ W G (z.at x.d) (zbR k r2.1).1 b3 q3 (0 + 1 + 1 + k) hDk (by omega) hf
   have e1 : (zcB false (zbR k r2.1).1).1 = (zbR (k + 1) r2.1).1 := rfl
   generalize zcB false (zbR k r2.1).1 = rk at *
   all_goals repeat' (first | apply zae | apply zaa | apply zah | apply zaf | apply zad | apply zab hT; iterate 4 exact rfl | (apply zam; exact rfl; all_goals (intro hb; (try dsimp only at hb); (try simp only [hb]); (first | replace hb := odt hb | replace hb := odf hb ); (try omega))))
   all_goals repeat' (first | apply zae | apply zaa | apply zaj | apply zah | apply zas | apply zaf | apply zad | apply zab hT; iterate 4 exact rfl | apply zaq; iterate 3 exact rfl | apply zau; iterate 2 exact rfl | apply zak; iterate 2 exact rfl | apply zag; iterate 2 exact rfl | apply zaN hT; (iterate 4 exact rfl); (iterate 2 omega) | (apply zav; exact rfl; all_goals (intro hb; (try dsimp only at hb); (try simp only [hb]); (first | replace hb := odt hb | replace hb := odf hb | replace hb := zaD hb | replace hb := zaE hb | replace hb := eq_of_beq hb | replace hb := ne_of_beq_false hb); (try omega))) | (apply zam; exact rfl; all_goals (intro hb; (try dsimp only at hb); (try simp only [hb]); (first | replace hb := odt hb | replace hb := odf hb | replace hb := zaD hb | replace hb := zaE hb | replace hb := eq_of_beq hb | replace hb := ne_of_beq_false hb); (try omega))))
   all_goals (apply zaz; (iterate 7 exact rfl); exact zaB.perm (dk _) (by (try unfold zai); (repeat (first | exact List.Perm.refl _))); rintro _ _ ⟨y4, b4, q4, B4, e4, rfl, rfl, f4, v4⟩)
   all_goals repeat' (first | apply zaa | apply zad | apply zab hT; iterate 4 exact rfl | apply zaN hT; (iterate 4 exact rfl); (iterate 2 omega))
   all_goals first
    | exact zaR (k + 1, y4, b4, q4) (by dsimp only; omega) ⟨by dsimp only; omega, e1 ▸ f4⟩ ⟨rfl, rfl, rfl, rfl, rfl, trivial⟩ (by dsimp only; rw [← e1]; (try unfold zai); (repeat (first | exact zcv | (apply zay; · (repeat (first | exact sel0 | apply selS ))) | (apply za1; · (repeat (first | exact zaP | apply zaT ))))))
    | skip
  ·obtain rfl : k = n := by omega
   have w3 : MsgW (zaw 12 [1]) := by unfold MsgW inW zaw; decide
   have d3 := fun G => zba W G (z.at x.d) (zbR k r2.1).1 b3 q3 (0 + 1 + 1 + k) hDk hOk (by omega) hf 0 2 _ w3
   have hD3 := hDk.do' (rf := false) 0 2 (zaw 12 [1])
   have hO3 := hOk.do' (rf := false) hDk 0 2 (zaw 12 [1])
   have hT3 := fun k => zik hD3 hO3 k
   clear hTk hDk hOk hD3 hO3
   generalize (zbR k r2.1).1 = sn at *
   generalize doD false sn 0 2 (zaw 12 [1]) = r3 at *
   by_cases hw : (k : Int) ≥ window
   ·rw [if_pos hw] at hck
    have h3 : zbG r3.2 = 4 := eq_of_beq hck
    all_goals repeat' (first | apply zae | apply zaa | apply zas | apply zad | apply zab hT; iterate 4 exact rfl | (apply zam; exact rfl; all_goals (intro hb; (try dsimp only at hb); (try simp only [hb]); (first | replace hb := odt hb | replace hb := odf hb ); (try omega))))
    all_goals (apply zao (cs := [.int .i64 1]) hT; (iterate 12 exact rfl); intro g11)
    all_goals repeat' (first | apply zae | apply zaa | apply zaj | apply zah | apply zas | apply zaf | apply zad | apply zab hT; iterate 4 exact rfl | apply zaq; iterate 3 exact rfl | apply zau; iterate 2 exact rfl | apply zak; iterate 2 exact rfl | apply zag; iterate 2 exact rfl | apply zaN hT; (iterate 4 exact rfl); (iterate 2 omega) | (apply zav; exact rfl; all_goals (intro hb; (try dsimp only at hb); (try simp only [hb]); (first | replace hb := odt hb | replace hb := odf hb | replace hb := zaD hb | replace hb := zaE hb | replace hb := eq_of_beq hb | replace hb := ne_of_beq_false hb); (try omega))) | (apply zam; exact rfl; all_goals (intro hb; (try dsimp only at hb); (try simp only [hb]); (first | replace hb := odt hb | replace hb := odf hb | replace hb := zaD hb | replace hb := zaE hb | replace hb := eq_of_beq hb | replace hb := ne_of_beq_false hb); (try omega))))
    all_goals (apply zac; (iterate 7 exact rfl); exact ofL W _ g11 1 12 [1] (by (repeat (first | exact mcs))) rfl (Nat.le_of_ble_eq_true rfl))
    all_goals repeat' (first | apply zae | apply zaa | apply zaj | apply zah | apply zas | apply zaf | apply zad | apply zab hT; iterate 4 exact rfl | apply zaq; iterate 3 exact rfl | apply zau; iterate 2 exact rfl | apply zak; iterate 2 exact rfl | apply zag; iterate 2 exact rfl | apply zaN hT; (iterate 4 exact rfl); (iterate 2 omega) | (apply zav; exact rfl; all_goals (intro hb; (try dsimp only at hb); (try simp only [hb]); (first | replace hb := odt hb | replace hb := odf hb | replace hb := zaD hb | replace hb := zaE hb | replace hb := eq_of_beq hb | replace hb := ne_of_beq_false hb); (try omega))) | (apply zam; exact rfl; all_goals (intro hb; (try dsimp only at hb); (try simp only [hb]); (first | replace hb := odt hb | replace hb := odf hb | replace hb := zaD hb | replace hb := zaE hb | replace hb := eq_of_beq hb | replace hb := ne_of_beq_false hb); (try omega))))
    all_goals (apply zaz; (iterate 7 exact rfl); exact zaB.perm (d3 _) (by (try unfold zai); (repeat (first | exact List.Perm.refl _ | (apply zaX; · (repeat (first | exact sel0 | apply selS ))) | (apply za0; · (repeat (first | exact zaP | apply zaT )))))); rintro _ _ ⟨y5, b5, q5, B5, e5, rfl, rfl, f5, v5⟩)
    all_goals repeat' (first | apply zae | apply zaa | apply zaj | apply zah | apply zas | apply zaf | apply zad | apply zab hT; iterate 4 exact rfl | apply zaq; iterate 3 exact rfl | apply zau; iterate 2 exact rfl | apply zak; iterate 2 exact rfl | apply zag; iterate 2 exact rfl | apply zaN hT; (iterate 4 exact rfl); (iterate 2 omega) | (apply zav; exact rfl; all_goals (intro hb; (try dsimp only at hb); (try simp only [hb]); (first | replace hb := odt hb | replace hb := odf hb | replace hb := zaD hb | replace hb := zaE hb | replace hb := eq_of_beq hb | replace hb := ne_of_beq_false hb); (try omega))) | (apply zam; exact rfl; all_goals (intro hb; (try dsimp only at hb); (try simp only [hb]); (first | replace hb := odt hb | replace hb := odf hb | replace hb := zaD hb | replace hb := zaE hb | replace hb := eq_of_beq hb | replace hb := ne_of_beq_false hb); (try omega))))
    all_goals (apply zac; (iterate 7 exact rfl); exact zbr W _ B5 e5 r3.2 h3 (v5.reads (by (repeat (first | exact mcs)))))
    all_goals repeat' (first | apply zae | apply zaa | apply zaf | apply zad | apply zab hT; iterate 4 exact rfl | (apply zav; exact rfl; all_goals (intro hb; (try dsimp only at hb); (try simp only [hb]); (first | replace hb := odt hb | replace hb := odf hb ); (try omega))) | (apply zam; exact rfl; all_goals (intro hb; (try dsimp only at hb); (try simp only [hb]); (first | replace hb := odt hb | replace hb := odf hb ); (try omega))))
    all_goals (apply zaz; (iterate 7 exact rfl); exact zcW W _; rintro _ _ ⟨rfl, rfl⟩)
    all_goals repeat' (first | apply zaj | apply zad | apply zab hT; iterate 4 exact rfl)
    all_goals (apply ret1; exact rfl; exact ⟨[], zcv, rfl⟩)
   ·rw [if_neg hw] at hck
    by_cases hl : (k : Int) ≥ life
    ·rw [if_pos hl] at hck
     have h3 : zbG r3.2 = 12 := eq_of_beq hck
     all_goals repeat' (first | apply zae | apply zaa | apply zas | apply zad | apply zab hT; iterate 4 exact rfl | (apply zam; exact rfl; all_goals (intro hb; (try dsimp only at hb); (try simp only [hb]); (first | replace hb := odt hb | replace hb := odf hb ); (try omega))))
     all_goals (apply zao (cs := [.int .i64 1]) hT; (iterate 12 exact rfl); intro g11)
     all_goals repeat' (first | apply zae | apply zaa | apply zaj | apply zah | apply zas | apply zaf | apply zad | apply zab hT; iterate 4 exact rfl | apply zaq; iterate 3 exact rfl | apply zau; iterate 2 exact rfl | apply zak; iterate 2 exact rfl | apply zag; iterate 2 exact rfl | apply zaN hT; (iterate 4 exact rfl); (iterate 2 omega) | (apply zav; exact rfl; all_goals (intro hb; (try dsimp only at hb); (try simp only [hb]); (first | replace hb := odt hb | replace hb := odf hb | replace hb := zaD hb | replace hb := zaE hb | replace hb := eq_of_beq hb | replace hb := ne_of_beq_false hb); (try omega))) | (apply zam; exact rfl; all_goals (intro hb; (try dsimp only at hb); (try simp only [hb]); (first | replace hb := odt hb | replace hb := odf hb | replace hb := zaD hb | replace hb := zaE hb | replace hb := eq_of_beq hb | replace hb := ne_of_beq_false hb); (try omega))))
     all_goals (apply zac; (iterate 7 exact rfl); exact ofL W _ g11 1 12 [1] (by (repeat (first | exact mcs))) rfl (Nat.le_of_ble_eq_true rfl))
     all_goals repeat' (first | apply zae | apply zaa | apply zaj | apply zah | apply zas | apply zaf | apply zad | apply zab hT; iterate 4 exact rfl | apply zaq; iterate 3 exact rfl | apply zau; iterate 2 exact rfl | apply zak; iterate 2 exact rfl | apply zag; iterate 2 exact rfl | apply zaN hT; (iterate 4 exact rfl); (iterate 2 omega) | (apply zav; exact rfl; all_goals (intro hb; (try dsimp only at hb); (try simp only [hb]); (first | replace hb := odt hb | replace hb := odf hb | replace hb := zaD hb | replace hb := zaE hb | replace hb := eq_of_beq hb | replace hb := ne_of_beq_false hb); (try omega))) | (apply zam; exact rfl; all_goals (intro hb; (try dsimp only at hb); (try simp only [hb]); (first | replace hb := odt hb | replace hb := odf hb | replace hb := zaD hb | replace hb := zaE hb | replace hb := eq_of_beq hb | replace hb := ne_of_beq_false hb); (try omega))))
     all_goals (apply zaz; (iterate 7 exact rfl); exact zaB.perm (d3 _) (by (try unfold zai); (repeat (first | exact List.Perm.refl _ | (apply zaX; · (repeat (first | exact sel0 | apply selS ))) | (apply za0; · (repeat (first | exact zaP | apply zaT )))))); rintro _ _ ⟨y5, b5, q5, B5, e5, rfl, rfl, f5, v5⟩)
     all_goals repeat' (first | apply zae | apply zaa | apply zaj | apply zah | apply zas | apply zaf | apply zad | apply zab hT; iterate 4 exact rfl | apply zaq; iterate 3 exact rfl | apply zau; iterate 2 exact rfl | apply zak; iterate 2 exact rfl | apply zag; iterate 2 exact rfl | apply zaN hT; (iterate 4 exact rfl); (iterate 2 omega) | (apply zav; exact rfl; all_goals (intro hb; (try dsimp only at hb); (try simp only [hb]); (first | replace hb := odt hb | replace hb := odf hb | replace hb := zaD hb | replace hb := zaE hb | replace hb := eq_of_beq hb | replace hb := ne_of_beq_false hb); (try omega))) | (apply zam; exact rfl; all_goals (intro hb; (try dsimp only at hb); (try simp only [hb]); (first | replace hb := odt hb | replace hb := odf hb | replace hb := zaD hb | replace hb := zaE hb | replace hb := eq_of_beq hb | replace hb := ne_of_beq_false hb); (try omega))))
     all_goals (apply zac; (iterate 7 exact rfl); exact zbr W _ B5 e5 r3.2 h3 (v5.reads (by (repeat (first | exact mcs)))))
     all_goals repeat' (first | apply zae | apply zaa | apply zaf | apply zad | apply zab hT; iterate 4 exact rfl | (apply zav; exact rfl; all_goals (intro hb; (try dsimp only at hb); (try simp only [hb]); (first | replace hb := odt hb | replace hb := odf hb ); (try omega))) | (apply zam; exact rfl; all_goals (intro hb; (try dsimp only at hb); (try simp only [hb]); (first | replace hb := odt hb | replace hb := odf hb ); (try omega))))
     all_goals (apply zaz; (iterate 7 exact rfl); exact zcW W _; rintro _ _ ⟨rfl, rfl⟩)
     all_goals repeat' (first | apply zaj | apply zad | apply zab hT; iterate 4 exact rfl)
     all_goals (apply ret1; exact rfl; exact ⟨[], zcv, rfl⟩)
    ·rw [if_neg hl] at hck
     simp only [Bool.and_eq_true, beq_iff_eq, decide_eq_true_eq] at hck
     obtain ⟨h3, t1, t2, o3, h5⟩ := hck
     all_goals repeat' (first | apply zae | apply zaa | apply zas | apply zad | apply zab hT; iterate 4 exact rfl | (apply zam; exact rfl; all_goals (intro hb; (try dsimp only at hb); (try simp only [hb]); (first | replace hb := odt hb | replace hb := odf hb ); (try omega))))
     all_goals (apply zao (cs := [.int .i64 1]) hT; (iterate 12 exact rfl); intro g11)
     all_goals repeat' (first | apply zae | apply zaa | apply zaj | apply zah | apply zas | apply zaf | apply zad | apply zab hT; iterate 4 exact rfl | apply zaq; iterate 3 exact rfl | apply zau; iterate 2 exact rfl | apply zak; iterate 2 exact rfl | apply zag; iterate 2 exact rfl | apply zaN hT; (iterate 4 exact rfl); (iterate 2 omega) | (apply zav; exact rfl; all_goals (intro hb; (try dsimp only at hb); (try simp only [hb]); (first | replace hb := odt hb | replace hb := odf hb | replace hb := zaD hb | replace hb := zaE hb | replace hb := eq_of_beq hb | replace hb := ne_of_beq_false hb); (try omega))) | (apply zam; exact rfl; all_goals (intro hb; (try dsimp only at hb); (try simp only [hb]); (first | replace hb := odt hb | replace hb := odf hb | replace hb := zaD hb | replace hb := zaE hb | replace hb := eq_of_beq hb | replace hb := ne_of_beq_false hb); (try omega))))
     all_goals (apply zac; (iterate 7 exact rfl); exact ofL W _ g11 1 12 [1] (by (repeat (first | exact mcs))) rfl (Nat.le_of_ble_eq_true rfl))
     all_goals repeat' (first | apply zae | apply zaa | apply zaj | apply zah | apply zas | apply zaf | apply zad | apply zab hT; iterate 4 exact rfl | apply zaq; iterate 3 exact rfl | apply zau; iterate 2 exact rfl | apply zak; iterate 2 exact rfl | apply zag; iterate 2 exact rfl | apply zaN hT; (iterate 4 exact rfl); (iterate 2 omega) | (apply zav; exact rfl; all_goals (intro hb; (try dsimp only at hb); (try simp only [hb]); (first | replace hb := odt hb | replace hb := odf hb | replace hb := zaD hb | replace hb := zaE hb | replace hb := eq_of_beq hb | replace hb := ne_of_beq_false hb); (try omega))) | (apply zam; exact rfl; all_goals (intro hb; (try dsimp only at hb); (try simp only [hb]); (first | replace hb := odt hb | replace hb := odf hb | replace hb := zaD hb | replace hb := zaE hb | replace hb := eq_of_beq hb | replace hb := ne_of_beq_false hb); (try omega))))
     all_goals (apply zaz; (iterate 7 exact rfl); exact zaB.perm (d3 _) (by (try unfold zai); (repeat (first | exact List.Perm.refl _ | (apply zaX; · (repeat (first | exact sel0 | apply selS ))) | (apply za0; · (repeat (first | exact zaP | apply zaT )))))); rintro _ _ ⟨y5, b5, q5, B5, e5, rfl, rfl, f5, v5⟩)
     all_goals repeat' (first | apply zae | apply zaa | apply zaj | apply zah | apply zas | apply zaf | apply zad | apply zab hT; iterate 4 exact rfl | apply zaq; iterate 3 exact rfl | apply zau; iterate 2 exact rfl | apply zak; iterate 2 exact rfl | apply zag; iterate 2 exact rfl | apply zaN hT; (iterate 4 exact rfl); (iterate 2 omega) | (apply zav; exact rfl; all_goals (intro hb; (try dsimp only at hb); (try simp only [hb]); (first | replace hb := odt hb | replace hb := odf hb | replace hb := zaD hb | replace hb := zaE hb | replace hb := eq_of_beq hb | replace hb := ne_of_beq_false hb); (try omega))) | (apply zam; exact rfl; all_goals (intro hb; (try dsimp only at hb); (try simp only [hb]); (first | replace hb := odt hb | replace hb := odf hb | replace hb := zaD hb | replace hb := zaE hb | replace hb := eq_of_beq hb | replace hb := ne_of_beq_false hb); (try omega))))
     all_goals (apply zac; (iterate 7 exact rfl); exact zbr W _ B5 e5 r3.2 h3 (v5.reads (by (repeat (first | exact mcs)))))
     all_goals repeat' (first | apply zae | apply zaa | apply zah | apply zaf | apply zad | apply zab hT; iterate 4 exact rfl | apply zag; iterate 2 exact rfl | (apply zam; exact rfl; all_goals (intro hb; (try dsimp only at hb); (try simp only [hb]); (first | replace hb := odt hb | replace hb := odf hb ); (try omega))))
     refine zbj (α := Nat × DAd × List BAd × List PRow) (E := fun z => [(0, .int .i64 (k : Int)), (1, .int .i64 life), (2, .int .i64 window), (7, ptrV x.d), (10, .int .i64 (k : Int)), (11, .int .i64 (z.1 : Int))])
      (H := fun z => zai (z.2.1.at x.d) (zbR z.1 r3.1).1 z.2.2.1 z.2.2.2 []) (μ := fun z => 2 - z.1)
      (S := fun z => z.1 ≤ 2 ∧ za6 (zbR z.1 r3.1).1 z.2.2.1 z.2.2.2) (0, y5, b5, q5) ⟨Nat.zero_le _, f5⟩ ⟨rfl, rfl, rfl, rfl, rfl, rfl, trivial⟩ ?_ ?_
     ·show zbk _ (zai (y5.at x.d) r3.1 b5 q5 [])
      unfold zai
      (repeat (first | exact zcv | (apply zay; · (repeat (first | exact sel0 | apply selS ))) | (apply za1; · (repeat (first | exact zaP | apply zaT )))))
     ·rintro ⟨j, z2, b3, q3⟩ ⟨hj, hf2⟩
      dsimp only at hj hf2 ⊢
      obtain ⟨hDj, hOj⟩ := hT3 j
      by_cases hlt2 : j < 2
      ·have dk := fun G => zgZ W G (z2.at x.d) (zbR j r3.1).1 b3 q3 (0 + 1 + 1 + k + 1 + j) hDj (by omega) hf2
       have e1 : (zcB false (zbR j r3.1).1).1 = (zbR (j + 1) r3.1).1 := rfl
       have hlen : (zcB false (zbR j r3.1).1).2.length = 0 := by
        have : j = 0 ∨ j = 1 := by omega
        rcases this with rfl | rfl
        ·exact t1
        ·exact t2
       generalize zcB false (zbR j r3.1).1 = rk at *
       all_goals repeat' (first | apply zae | apply zaa | apply zah | apply zaf | apply zad | apply zab hT; iterate 4 exact rfl | (apply zam; exact rfl; all_goals (intro hb; (try dsimp only at hb); (try simp only [hb]); (first | replace hb := odt hb | replace hb := odf hb ); (try omega))))
       all_goals repeat' (first | apply zae | apply zaa | apply zaj | apply zah | apply zas | apply zaf | apply zad | apply zab hT; iterate 4 exact rfl | apply zaq; iterate 3 exact rfl | apply zau; iterate 2 exact rfl | apply zak; iterate 2 exact rfl | apply zag; iterate 2 exact rfl | apply zaN hT; (iterate 4 exact rfl); (iterate 2 omega) | (apply zav; exact rfl; all_goals (intro hb; (try dsimp only at hb); (try simp only [hb]); (first | replace hb := odt hb | replace hb := odf hb | replace hb := zaD hb | replace hb := zaE hb | replace hb := eq_of_beq hb | replace hb := ne_of_beq_false hb); (try omega))) | (apply zam; exact rfl; all_goals (intro hb; (try dsimp only at hb); (try simp only [hb]); (first | replace hb := odt hb | replace hb := odf hb | replace hb := zaD hb | replace hb := zaE hb | replace hb := eq_of_beq hb | replace hb := ne_of_beq_false hb); (try omega))))
       all_goals (apply zaz; (iterate 7 exact rfl); exact zaB.perm (dk _) (by (try unfold zai); (repeat (first | exact List.Perm.refl _))); rintro _ _ ⟨y4, b4, q4, B4, e4, rfl, rfl, f4, v4⟩)
       rw [hlen] at v4 ⊢
       all_goals repeat' (first | apply zaa | apply zah | apply zad | apply zab hT; iterate 4 exact rfl | apply zag; iterate 2 exact rfl | apply zaN hT; (iterate 4 exact rfl); (iterate 2 omega))
       all_goals first
        | exact zaR (j + 1, y4, b4, q4) (by dsimp only; omega) ⟨by dsimp only; omega, e1 ▸ f4⟩ ⟨rfl, rfl, rfl, rfl, rfl, rfl, trivial⟩ (by dsimp only; rw [← e1]; (try unfold zai); (repeat (first | exact zcv | (apply zay; · (repeat (first | exact sel0 | apply selS ))) | (apply za1; · (repeat (first | exact zaP | apply zaT ))))))
        | skip
      ·obtain rfl : j = 2 := by omega
       have d5 := fun G => zgZ W G (z2.at x.d) (zbR 2 r3.1).1 b3 q3 (0 + 1 + 1 + k + 1 + 2) hDj (by omega) hf2
       have w6 : MsgW (zaw 14 [1]) := by unfold MsgW inW zaw; decide
       have hD6 := hDj.tick (rf := false)
       have hO6 := hOj.tick (rf := false)
       change (zcB false (zbR 2 r3.1).1).2 = _ at o3
       change zbG (doD false (zcB false (zbR 2 r3.1).1).1 2 2 (zaw 14 [1])).2 = 11 at h5
       have d6 := fun (y : DAd) b q f G => zba W G (y.at x.d) (zcB false (zbR 2 r3.1).1).1 b q (0 + 1 + 1 + k + 1 + 2 + 1) hD6 hO6 (by omega) f 2 2 _ w6
       clear hD6 hO6 hDj hOj hT3
       generalize zcB false (zbR 2 r3.1).1 = r5 at *
       generalize doD false r5.1 2 2 (zaw 14 [1]) = r6 at *
       have l5 : r5.2.length = 1 := by rw [o3]; rfl
       have i5 : r5.2[(0 : Int).toNat]? = some (timO (decide ((k : Int) + 3 ≥ window))) := by rw [o3]; rfl
       clear o3
       by_cases hd : (k : Int) + 3 ≥ window
       ·rw [decide_eq_true hd] at i5
        change _ = some (outM 0 27 [1]) at i5
        all_goals repeat' (first | apply zae | apply zaa | apply zas | apply zad | apply zab hT; iterate 4 exact rfl | apply zag; iterate 2 exact rfl)
        all_goals (apply zaz; (iterate 7 exact rfl); exact zaB.perm (d5 _) (by (try unfold zai); (repeat (first | exact List.Perm.refl _))); rintro _ _ ⟨y6, b6, q6, B6, e6, rfl, rfl, f6, v6⟩)
        rw [l5] at v6 ⊢
        have hA6 : B6.isSome = true := v6.some_ (by omega)
        have d6 := d6 y6 b6 q6 f6
        all_goals repeat' (first | apply zae | apply zaa | apply zad | apply zab hT; iterate 4 exact rfl | apply zaS hT; (iterate 8 exact rfl); (iterate 2 omega); exact hA6 | (apply zal; (iterate 5 exact rfl); first | exact zbb hT rfl rfl (v6.reads (by (repeat (first | exact mcs )))) OutR.enc_len (by rw [zaW, zaW]; rfl) i5 (f := 1) (v := .int .i64 27) (by decide) rfl | exact zbb hT rfl rfl (v6.reads (by (repeat (first | exact mcs )))) OutR.enc_len (by rw [zaW]; rfl) i5 (f := 0) (v := .int .i64 0) (by decide) rfl) | apply zaN hT; (iterate 4 exact rfl); (iterate 2 omega) | (apply zav; exact rfl; all_goals (intro hb; (try dsimp only at hb); (try simp only [hb]); (first | replace hb := odt hb | replace hb := odf hb ); (try omega))) | (apply zam; exact rfl; all_goals (intro hb; (try dsimp only at hb); (try simp only [hb]); (first | replace hb := odt hb | replace hb := odf hb ); (try omega))))
        all_goals (apply zao (cs := [.int .i64 1]) hT; (iterate 12 exact rfl); intro g11)
        all_goals repeat' (first | apply zae | apply zaa | apply zaj | apply zah | apply zas | apply zaf | apply zad | apply zab hT; iterate 4 exact rfl | apply zaq; iterate 3 exact rfl | apply zau; iterate 2 exact rfl | apply zak; iterate 2 exact rfl | apply zag; iterate 2 exact rfl | apply zaS hT; (iterate 8 exact rfl); (iterate 2 omega); exact hA6 | (apply zal; (iterate 5 exact rfl); first | exact zbb hT rfl rfl (v6.reads (by (repeat (first | exact mcs | apply mcm | apply mar)))) OutR.enc_len (by rw [zaW, zaW]; rfl) i5 (f := 1) (v := .int .i64 27) (by decide) rfl | exact zbb hT rfl rfl (v6.reads (by (repeat (first | exact mcs | apply mcm | apply mar)))) OutR.enc_len (by rw [zaW]; rfl) i5 (f := 0) (v := .int .i64 0) (by decide) rfl) | apply zaN hT; (iterate 4 exact rfl); (iterate 2 omega) | (apply zav; exact rfl; all_goals (intro hb; (try dsimp only at hb); (try simp only [hb]); (first | replace hb := odt hb | replace hb := odf hb | replace hb := zaD hb | replace hb := zaE hb | replace hb := eq_of_beq hb | replace hb := ne_of_beq_false hb); (try omega))) | (apply zam; exact rfl; all_goals (intro hb; (try dsimp only at hb); (try simp only [hb]); (first | replace hb := odt hb | replace hb := odf hb | replace hb := zaD hb | replace hb := zaE hb | replace hb := eq_of_beq hb | replace hb := ne_of_beq_false hb); (try omega))))
        all_goals (apply zac; (iterate 7 exact rfl); exact ofL W _ g11 1 14 [1] (by (repeat (first | exact mcs))) rfl (Nat.le_of_ble_eq_true rfl))
        all_goals repeat' (first | apply zae | apply zaa | apply zaj | apply zah | apply zas | apply zaf | apply zad | apply zab hT; iterate 4 exact rfl | apply zaq; iterate 3 exact rfl | apply zau; iterate 2 exact rfl | apply zak; iterate 2 exact rfl | apply zag; iterate 2 exact rfl | apply zaS hT; (iterate 8 exact rfl); (iterate 2 omega); exact hA6 | (apply zal; (iterate 5 exact rfl); first | exact zbb hT rfl rfl (v6.reads (by (repeat (first | exact mcs | apply mcm | apply mar)))) OutR.enc_len (by rw [zaW, zaW]; rfl) i5 (f := 1) (v := .int .i64 27) (by decide) rfl | exact zbb hT rfl rfl (v6.reads (by (repeat (first | exact mcs | apply mcm | apply mar)))) OutR.enc_len (by rw [zaW]; rfl) i5 (f := 0) (v := .int .i64 0) (by decide) rfl) | apply zaN hT; (iterate 4 exact rfl); (iterate 2 omega) | (apply zav; exact rfl; all_goals (intro hb; (try dsimp only at hb); (try simp only [hb]); (first | replace hb := odt hb | replace hb := odf hb | replace hb := zaD hb | replace hb := zaE hb | replace hb := eq_of_beq hb | replace hb := ne_of_beq_false hb); (try omega))) | (apply zam; exact rfl; all_goals (intro hb; (try dsimp only at hb); (try simp only [hb]); (first | replace hb := odt hb | replace hb := odf hb | replace hb := zaD hb | replace hb := zaE hb | replace hb := eq_of_beq hb | replace hb := ne_of_beq_false hb); (try omega))))
        all_goals (apply zaz; (iterate 7 exact rfl); exact zaB.perm (d6 _) (by (try unfold zai); (repeat (first | exact List.Perm.refl _ | (apply zaX; · (repeat (first | exact sel0 | apply selS ))) | (apply za0; · (repeat (first | exact zaP | apply zaT )))))); rintro _ _ ⟨y7, b7, q7, B7, e7, rfl, rfl, f7, v7⟩)
        all_goals repeat' (first | apply zae | apply zaa | apply zaj | apply zah | apply zas | apply zaf | apply zad | apply zab hT; iterate 4 exact rfl | apply zaq; iterate 3 exact rfl | apply zau; iterate 2 exact rfl | apply zak; iterate 2 exact rfl | apply zag; iterate 2 exact rfl | apply zaS hT; (iterate 8 exact rfl); (iterate 2 omega); exact hA6 | (apply zal; (iterate 5 exact rfl); first | exact zbb hT rfl rfl (v6.reads (by (repeat (first | exact mcs | apply mcm | apply mar)))) OutR.enc_len (by rw [zaW, zaW]; rfl) i5 (f := 1) (v := .int .i64 27) (by decide) rfl | exact zbb hT rfl rfl (v6.reads (by (repeat (first | exact mcs | apply mcm | apply mar)))) OutR.enc_len (by rw [zaW]; rfl) i5 (f := 0) (v := .int .i64 0) (by decide) rfl) | apply zaN hT; (iterate 4 exact rfl); (iterate 2 omega) | (apply zav; exact rfl; all_goals (intro hb; (try dsimp only at hb); (try simp only [hb]); (first | replace hb := odt hb | replace hb := odf hb | replace hb := zaD hb | replace hb := zaE hb | replace hb := eq_of_beq hb | replace hb := ne_of_beq_false hb); (try omega))) | (apply zam; exact rfl; all_goals (intro hb; (try dsimp only at hb); (try simp only [hb]); (first | replace hb := odt hb | replace hb := odf hb | replace hb := zaD hb | replace hb := zaE hb | replace hb := eq_of_beq hb | replace hb := ne_of_beq_false hb); (try omega))))
        all_goals (apply zac; (iterate 7 exact rfl); exact zbr W _ B7 e7 r6.2 h5 (v7.reads (by (repeat (first | exact mcs)))))
        all_goals repeat' (first | apply zab hT; iterate 4 exact rfl | (apply zav; exact rfl; all_goals (intro hb; (try dsimp only at hb); (try simp only [hb]); (first | replace hb := odt hb | replace hb := odf hb ); (try omega))))
        all_goals (apply zaz; (iterate 7 exact rfl); exact zcW W _; rintro _ _ ⟨rfl, rfl⟩)
        all_goals repeat' (first | apply zaj | apply zad | apply zab hT; iterate 4 exact rfl)
        all_goals (apply ret1; exact rfl; exact ⟨[], zcv, rfl⟩)
       ·rw [decide_eq_false hd] at i5
        change _ = some (outM 0 25 [1, 1]) at i5
        all_goals repeat' (first | apply zae | apply zaa | apply zas | apply zad | apply zab hT; iterate 4 exact rfl | apply zag; iterate 2 exact rfl)
        all_goals (apply zaz; (iterate 7 exact rfl); exact zaB.perm (d5 _) (by (try unfold zai); (repeat (first | exact List.Perm.refl _))); rintro _ _ ⟨y6, b6, q6, B6, e6, rfl, rfl, f6, v6⟩)
        rw [l5] at v6 ⊢
        have hA6 : B6.isSome = true := v6.some_ (by omega)
        have d6 := d6 y6 b6 q6 f6
        all_goals repeat' (first | apply zae | apply zaa | apply zah | apply zad | apply zab hT; iterate 4 exact rfl | apply zaS hT; (iterate 8 exact rfl); (iterate 2 omega); exact hA6 | (apply zal; (iterate 5 exact rfl); first | exact zbb hT rfl rfl (v6.reads (by (repeat (first | exact mcs )))) OutR.enc_len (by rw [zaW, zaW]; rfl) i5 (f := 1) (v := .int .i64 25) (by decide) rfl | exact zbb hT rfl rfl (v6.reads (by (repeat (first | exact mcs )))) OutR.enc_len (by rw [zaW]; rfl) i5 (f := 0) (v := .int .i64 0) (by decide) rfl) | apply zaN hT; (iterate 4 exact rfl); (iterate 2 omega) | (apply zav; exact rfl; all_goals (intro hb; (try dsimp only at hb); (try simp only [hb]); (first | replace hb := odt hb | replace hb := odf hb ); (try omega))) | (apply zam; exact rfl; all_goals (intro hb; (try dsimp only at hb); (try simp only [hb]); (first | replace hb := odt hb | replace hb := odf hb ); (try omega))))
        all_goals (apply zao (cs := [.int .i64 1]) hT; (iterate 12 exact rfl); intro g11)
        all_goals repeat' (first | apply zae | apply zaa | apply zaj | apply zah | apply zas | apply zaf | apply zad | apply zab hT; iterate 4 exact rfl | apply zaq; iterate 3 exact rfl | apply zau; iterate 2 exact rfl | apply zak; iterate 2 exact rfl | apply zag; iterate 2 exact rfl | apply zaS hT; (iterate 8 exact rfl); (iterate 2 omega); exact hA6 | (apply zal; (iterate 5 exact rfl); first | exact zbb hT rfl rfl (v6.reads (by (repeat (first | exact mcs | apply mcm | apply mar)))) OutR.enc_len (by rw [zaW, zaW]; rfl) i5 (f := 1) (v := .int .i64 25) (by decide) rfl | exact zbb hT rfl rfl (v6.reads (by (repeat (first | exact mcs | apply mcm | apply mar)))) OutR.enc_len (by rw [zaW]; rfl) i5 (f := 0) (v := .int .i64 0) (by decide) rfl) | apply zaN hT; (iterate 4 exact rfl); (iterate 2 omega) | (apply zav; exact rfl; all_goals (intro hb; (try dsimp only at hb); (try simp only [hb]); (first | replace hb := odt hb | replace hb := odf hb | replace hb := zaD hb | replace hb := zaE hb | replace hb := eq_of_beq hb | replace hb := ne_of_beq_false hb); (try omega))) | (apply zam; exact rfl; all_goals (intro hb; (try dsimp only at hb); (try simp only [hb]); (first | replace hb := odt hb | replace hb := odf hb | replace hb := zaD hb | replace hb := zaE hb | replace hb := eq_of_beq hb | replace hb := ne_of_beq_false hb); (try omega))))
        all_goals (apply zac; (iterate 7 exact rfl); exact ofL W _ g11 1 14 [1] (by (repeat (first | exact mcs))) rfl (Nat.le_of_ble_eq_true rfl))
        all_goals repeat' (first | apply zae | apply zaa | apply zaj | apply zah | apply zas | apply zaf | apply zad | apply zab hT; iterate 4 exact rfl | apply zaq; iterate 3 exact rfl | apply zau; iterate 2 exact rfl | apply zak; iterate 2 exact rfl | apply zag; iterate 2 exact rfl | apply zaS hT; (iterate 8 exact rfl); (iterate 2 omega); exact hA6 | (apply zal; (iterate 5 exact rfl); first | exact zbb hT rfl rfl (v6.reads (by (repeat (first | exact mcs | apply mcm | apply mar)))) OutR.enc_len (by rw [zaW, zaW]; rfl) i5 (f := 1) (v := .int .i64 25) (by decide) rfl | exact zbb hT rfl rfl (v6.reads (by (repeat (first | exact mcs | apply mcm | apply mar)))) OutR.enc_len (by rw [zaW]; rfl) i5 (f := 0) (v := .int .i64 0) (by decide) rfl) | apply zaN hT; (iterate 4 exact rfl); (iterate 2 omega) | (apply zav; exact rfl; all_goals (intro hb; (try dsimp only at hb); (try simp only [hb]); (first | replace hb := odt hb | replace hb := odf hb | replace hb := zaD hb | replace hb := zaE hb | replace hb := eq_of_beq hb | replace hb := ne_of_beq_false hb); (try omega))) | (apply zam; exact rfl; all_goals (intro hb; (try dsimp only at hb); (try simp only [hb]); (first | replace hb := odt hb | replace hb := odf hb | replace hb := zaD hb | replace hb := zaE hb | replace hb := eq_of_beq hb | replace hb := ne_of_beq_false hb); (try omega))))
        all_goals (apply zaz; (iterate 7 exact rfl); exact zaB.perm (d6 _) (by (try unfold zai); (repeat (first | exact List.Perm.refl _ | (apply zaX; · (repeat (first | exact sel0 | apply selS ))) | (apply za0; · (repeat (first | exact zaP | apply zaT )))))); rintro _ _ ⟨y7, b7, q7, B7, e7, rfl, rfl, f7, v7⟩)
        all_goals repeat' (first | apply zae | apply zaa | apply zaj | apply zah | apply zas | apply zaf | apply zad | apply zab hT; iterate 4 exact rfl | apply zaq; iterate 3 exact rfl | apply zau; iterate 2 exact rfl | apply zak; iterate 2 exact rfl | apply zag; iterate 2 exact rfl | apply zaS hT; (iterate 8 exact rfl); (iterate 2 omega); exact hA6 | (apply zal; (iterate 5 exact rfl); first | exact zbb hT rfl rfl (v6.reads (by (repeat (first | exact mcs | apply mcm | apply mar)))) OutR.enc_len (by rw [zaW, zaW]; rfl) i5 (f := 1) (v := .int .i64 25) (by decide) rfl | exact zbb hT rfl rfl (v6.reads (by (repeat (first | exact mcs | apply mcm | apply mar)))) OutR.enc_len (by rw [zaW]; rfl) i5 (f := 0) (v := .int .i64 0) (by decide) rfl) | apply zaN hT; (iterate 4 exact rfl); (iterate 2 omega) | (apply zav; exact rfl; all_goals (intro hb; (try dsimp only at hb); (try simp only [hb]); (first | replace hb := odt hb | replace hb := odf hb | replace hb := zaD hb | replace hb := zaE hb | replace hb := eq_of_beq hb | replace hb := ne_of_beq_false hb); (try omega))) | (apply zam; exact rfl; all_goals (intro hb; (try dsimp only at hb); (try simp only [hb]); (first | replace hb := odt hb | replace hb := odf hb | replace hb := zaD hb | replace hb := zaE hb | replace hb := eq_of_beq hb | replace hb := ne_of_beq_false hb); (try omega))))
        all_goals (apply zac; (iterate 7 exact rfl); exact zbr W _ B7 e7 r6.2 h5 (v7.reads (by (repeat (first | exact mcs)))))
        all_goals repeat' (first | apply zab hT; iterate 4 exact rfl | (apply zav; exact rfl; all_goals (intro hb; (try dsimp only at hb); (try simp only [hb]); (first | replace hb := odt hb | replace hb := odf hb ); (try omega))))
        all_goals (apply zaz; (iterate 7 exact rfl); exact zcW W _; rintro _ _ ⟨rfl, rfl⟩)
        all_goals repeat' (first | apply zaj | apply zad | apply zab hT; iterate 4 exact rfl)
        all_goals (apply ret1; exact rfl; exact ⟨[], zcv, rfl⟩)
theorem zng (W : World) (ticks life window : Int) : zaB Tryz.prog W 9 [.int .i64 ticks, .int .i64 life, .int .i64 window] [] (fun v _ => v = .bool true) := by
 by_cases h : ticks < 0 ∨ 40 < ticks ∨ life < 1 ∨ 30 < life ∨ window < 1 ∨ 30 < window
 ·exact timX W ticks life window h
 ·obtain ⟨n, rfl⟩ : ∃ n : Nat, ticks = n := ⟨ticks.toNat, by omega⟩
  exact zri W n life window (by omega) (by omega) (by omega) (by omega) (by omega)
end Go.Proofs.YtakilgkpfjhfdaaGreat
namespace Go.Proofs.YtakilgkpfjhfdaaGreat
namespace deskTimes
open Go Go.Sl Go.ChangeShapes Go.WideShapes Go.ChangeAt Go.RowKit
theorem own : ownKnob Tryz.prog.godebug = none := by kernel_rfl
theorem zdd : laidOutB Tryz.prog = true := by kernel_rfl
set_option maxRecDepth 100000 in
theorem zeg (os : Os) (started : os.Started) (H : Type) (enc : TypeId × Value → H) :
 ReturnsInHanded {} Tryz.checked os 9 .any (Rows.deskTimesSpec.pre6 enc Tryz.prog Tryz.f9 Rows.deskTimesRow.domain false) (Rows.deskTimesSpec.post enc Tryz.prog Tryz.f9 false true false false) := by
 refine returnsInHanded_of_change (C := Tryz.checked) own started (by kernel_rfl) Tryz.func9
  (ChangeSpec.witness6 (enc := enc) (C := Tryz.checked) false ⟨#[], #[.int .i64 0, .int .i64 0, .int .i64 0], []⟩ 8 (by kernel_rfl) (by kernel_rfl) (by kernel_rfl) (by kernel_rfl)) ?_
 intro W base args ds gs before hval0 hW hcnd _
 have hval : ∀ (j : Nat) t v, Tryz.f9.params[j]? = some t → args[j]? = some v → Value.okWide Tryz.prog W .any base t v := hval0
 have hW' := hW
 obtain ⟨p, q, hA0, hV, rfl, hfz, hnd⟩ := hW
 have hA : DataW.TrodAll enc Tryz.prog W 0 (fun _ => true) true Tryz.f9.params.toList args.toList ds p := hA0
 obtain ⟨rfl, rfl⟩ := trodVars_none hV
 simp only [List.append_nil] at hW'
 have hA1 := hA
 rw [Tryz.params9] at hA1 hval
 obtain ⟨v0, vs0, d0, ds0, p0, q0, hargs, rfl, rfl, h0, r0⟩ := trodAll_cons hA1
 obtain ⟨v1, vs1, d1, ds1, p1, q1, rfl, rfl, rfl, h1, r1⟩ := trodAll_cons r0
 obtain ⟨v2, vs2, d2, ds2, p2, q2, rfl, rfl, rfl, h2, r2⟩ := trodAll_cons r1
 obtain ⟨rfl, rfl, rfl⟩ := trodAll_nil r2
 obtain rfl : args = #[v0, v1, v2] := by cases args; simp_all
 obtain ⟨a0, rfl, _, _, w0⟩ := open_int Tryz.underlying3 (hval 0 3 v0 rfl rfl) h0
 obtain ⟨a1, rfl, _, _, w1⟩ := open_int Tryz.underlying2 (hval 1 2 v1 rfl rfl) h1
 obtain ⟨a2, rfl, _, _, w2⟩ := open_int Tryz.underlying2 (hval 2 2 v2 rfl rfl) h2
 refine (zaB.row (zng W a0 a1 a2) (fun _ _ h => h)).mono fun e W' ⟨he, hb⟩ => ?_
 subst he
 exact ⟨_, rfl, zen hW' hA zdd (by kernel_rfl) rfl rfl Tryz.underlying4 rfl rfl rfl hb⟩
theorem zg2 : Tryz.prog.funcNamed Rows.deskTimesRow.func = some 9 := by kernel_rfl
set_option maxRecDepth 100000 in
set_option maxHeartbeats 8000000 in
theorem zeh : joinedFacts Tryz.prog 9 Tryz.f9 Rows.deskTimesSpec Rows.deskTimesRow = true := by
 unfold joinedFacts
 simp only [Bool.and_eq_true]
 repeat' apply And.intro
 all_goals decide +kernel
theorem inst : Tryz.f9.isInstance Tryz.prog Rows.deskTimesRow.origin Rows.deskTimesRow.targs := odt (by kernel_rfl)
theorem over : Rows.deskTimesRow.holds Tryz.pinned (OpenSpec.ofChange Rows.deskTimesSpec) :=
 OpenClaim.holds_of_wide 9 Tryz.f9 rfl rfl rfl rfl rfl rfl rfl ⟨rfl, rfl, rfl, rfl, rfl⟩ rfl rfl rfl rfl rfl zg2 Tryz.func9 zeh
  inst (by unfold Func.isWrapper; first | (rw [if_pos (by decide +kernel)]; kernel_rfl) | (rw [if_neg (by decide +kernel)]; exact ⟨rfl, rfl⟩))
  (fun os started H enc _ => zeg os started H enc)
end deskTimes
theorem deskTimes_holds : Rows.DeskTimesSaid := deskTimes.over
#print axioms deskTimes_holds
end Go.Proofs.YtakilgkpfjhfdaaGreat
