/- The statements' walks, and what they stand on, joined into few texts: the last of DeskChanges. Conditions stand in each statement. -/
import Derived.Test.YtakilgkpfjhfdaaGreatBndF6
set_option linter.all false
namespace Go.Proofs.YtakilgkpfjhfdaaGreat
open Go Go.Sl
attribute [local irreducible] AW ES EP Ld RetQ
set_option maxRecDepth 100000
theorem zbr (W : World) (h : List zax) (A : Option Addr) (c : Nat) (o : List OutR) {n : Int} (he : zbG o = n) (hr : zaJ W h A o.length 8 (o.flatMap OutR.enc)) : zaL Tryz.prog W 16 [.slice A o.length c] h (.int .i64 n) := he ▸ zhM W h A c o hr
theorem all2 {f : Int → Int → Bool} {o m n : Nat} (h : (List.range m).all (fun p => (List.range n).all fun q => f ((p : Int) + (o + 1)) ((q : Int) + 1)) = true) {p q : Int} (hp : o + 1 ≤ p) (hp2 : p ≤ o + m) (hq : 1 ≤ q) (hq2 : q ≤ n) : f p q = true := by
 have h1 := List.all_eq_true.1 h (p - (o + 1)).toNat (List.mem_range.2 (by omega))
 have h2 := List.all_eq_true.1 h1 (q - 1).toNat (List.mem_range.2 (by omega))
 rw [show (((p - (o + 1)).toNat : Nat) : Int) + (o + 1) = p by omega, show (((q - 1).toNat : Nat) : Int) + 1 = q by omega] at h2
 exact h2
def chgR (p q : Int) : Dk × List OutR := doD false (doD false (doD false (wayD 0) 0 1 (zaw 6 [0, 1, 100, 50, 0])).1 1 1 (zaw 6 [0, 1, 100, 50, 0])).1 0 2 (zaw 8 [1, 5 * p, 10 * q])
def chgF (p q : Int) : Bool := decide (20 < p) || (p == 20 && decide (q ≤ 5))
def chgL (p q : Int) (x y : zaA) : Bool := x.id == 1 && x.left == 10 * q && x.price == 5 * p && y.id == 2
def zpl (p q : Int) : Bool :=
 zbG (chgR p q).2 == 0 && (chgR p q).2.length == 1 && (match (chgR p q).1.books with
  | B :: _ => (match zbf 1 B with
    | [x, y] => if chgF p q then chgL p q x y else chgL p q y x
    | _ => false)
  | [] => false)
theorem chg1 : (List.range 100).all (fun p => (List.range 10).all fun q => zpl ((p : Int) + ((0 : Nat) + 1)) ((q : Int) + 1)) = true := by decide +kernel
theorem zpm {p q : Int} (h1 : 1 ≤ p) (h2 : p ≤ 100) (h3 : 1 ≤ q) (h4 : q ≤ 10) : zpl p q = true := all2 chg1 (by omega) (by omega) h3 (by omega)
theorem zre {p q : Int} (h1 : 1 ≤ p) (h2 : p ≤ 100) (h3 : 1 ≤ q) (h4 : q ≤ 10) : zbG (chgR p q).2 = 0 ∧ (chgR p q).2.length = 1 ∧ ∃ (B : List zaA) (x y : zaA), (chgR p q).1.books[0]? = some B ∧ zbf 1 B = [x, y] ∧ (chgF p q = true → chgL p q x y = true) ∧ (chgF p q = false → chgL p q y x = true) := by
 have h := zpm h1 h2 h3 h4
 unfold zpl at h
 generalize chgR p q = R at *
 simp only [Bool.and_eq_true, beq_iff_eq] at h
 obtain ⟨⟨e1, e2⟩, e3⟩ := h
 refine ⟨e1, e2, ?_⟩
 split at e3
 ·rename_i B Bs hB
  split at e3
  ·rename_i x y hs
   refine ⟨B, x, y, by rw [hB]; rfl, hs, fun hf => ?_, fun hf => ?_⟩
   ·rw [hf] at e3; exact e3
   ·rw [hf] at e3; exact e3
  ·cases e3
 ·cases e3
def tk (s : Dk) : Dk := (zcB false s).1
theorem zin (W : World) (h : List zax) (A : Option Addr) (c : Nat) (o : List OutR) {k : Nat} {n : Int} (hl : o.length = k) (he : zbG o = n) (hr : zaJ W h A k 8 (o.flatMap OutR.enc)) : zaL Tryz.prog W 16 [.slice A k c] h (.int .i64 n) := by
 subst hl
 exact zbr W h A c o he hr
set_option maxHeartbeats 4000000 in
theorem chgX (W : World) (price qty : Int) (hx : price < 1 ∨ 100 < price ∨ qty < 1 ∨ 10 < qty) : zaB Tryz.prog W 6 [.int .i64 price, .int .i64 qty] [] (fun v _ => v = .bool true) := by
 refine zaB.dropTo ?_
 refine zan Tryz.func6 rfl rfl Tryz.results6 Tryz.ntmps6 rfl rfl ?_
 all_goals repeat' (first | apply zae | apply zaa | apply zaj | apply zad | apply zab hT; iterate 4 exact rfl | apply zaq; iterate 3 exact rfl | apply zak; iterate 2 exact rfl | (apply zav; exact rfl; all_goals (intro hb; (try dsimp only at hb); (try simp only [hb]); (first | replace hb := odt hb | replace hb := odf hb ); (try omega))) | (apply zam; exact rfl; all_goals (intro hb; (try dsimp only at hb); (try simp only [hb]); (first | replace hb := odt hb | replace hb := odf hb ); (try omega))))
 all_goals (apply ret1; exact rfl; exact ⟨[], zcv, rfl⟩)
set_option maxHeartbeats 8000000 in
theorem chg0 (W : World) (price qty : Int) (p1 : 1 ≤ price) (p2 : price ≤ 100) (q1 : 1 ≤ qty) (q2 : qty ≤ 10) : zaB Tryz.prog W 6 [.int .i64 price, .int .i64 qty] [] (fun v _ => v = .bool true) := by
 refine zaB.dropTo ?_
 obtain ⟨hD0, hO0⟩ := zdo (w := 0) (.inl rfl)
 have hb0 : bitI .and .i64 0 3 = 0 := by decide +kernel
 have w1 : MsgW (zaw 6 [0, 1, 100, 50, 0]) := by unfold MsgW inW zaw; decide
 have d1 := fun G (x : DAd) b q f => zba W G x (wayD 0) b q (0) hD0 hO0 (by omega) f 0 1 _ w1
 have hD1 := hD0.do' (rf := false) 0 1 (zaw 6 [0, 1, 100, 50, 0])
 have hO1 := hO0.do' (rf := false) hD0 0 1 (zaw 6 [0, 1, 100, 50, 0])
 have w2 : MsgW (zaw 6 [0, 1, 100, 50, 0]) := by unfold MsgW inW zaw; decide
 have d2 := fun G (x : DAd) b q f => zba W G x (doD false (wayD 0) 0 1 (zaw 6 [0, 1, 100, 50, 0])).1 b q (0 + 1) hD1 hO1 (by omega) f 1 1 _ w2
 have hD2 := hD1.do' (rf := false) 1 1 (zaw 6 [0, 1, 100, 50, 0])
 have hO2 := hO1.do' (rf := false) hD1 1 1 (zaw 6 [0, 1, 100, 50, 0])
 have w3 : MsgW (zaw 8 [1, 5 * price, 10 * qty]) := zeU (fun n hn => by simp only [List.mem_cons, List.not_mem_nil, or_false] at hn; unfold inW; omega)
 have d3 := fun G (x : DAd) b q f => zba W G x (doD false (doD false (wayD 0) 0 1 (zaw 6 [0, 1, 100, 50, 0])).1 1 1 (zaw 6 [0, 1, 100, 50, 0])).1 b q (0 + 1 + 1) hD2 hO2 (by omega) f 0 2 _ w3
 have hD3 := hD2.do' (rf := false) 0 2 (zaw 8 [1, 5 * price, 10 * qty])
 have hO3 := hO2.do' (rf := false) hD2 0 2 (zaw 8 [1, 5 * price, 10 * qty])
 have hBB := hD3.bks
 obtain ⟨h3, l3, B, x1, x2, hB, hS, hF1, hF0⟩ := zre p1 p2 q1 q2
 change (doD false (doD false (doD false (wayD 0) 0 1 (zaw 6 [0, 1, 100, 50, 0])).1 1 1 (zaw 6 [0, 1, 100, 50, 0])).1 0 2 (zaw 8 [1, 5 * price, 10 * qty])).1.books[0]? = some B at hB
 have hfew := hD3.few
 obtain ⟨h3, l3⟩ : zbG (doD false (doD false (doD false (wayD 0) 0 1 (zaw 6 [0, 1, 100, 50, 0])).1 1 1 (zaw 6 [0, 1, 100, 50, 0])).1 0 2 (zaw 8 [1, 5 * price, 10 * qty])).2 = 0 ∧ (doD false (doD false (doD false (wayD 0) 0 1 (zaw 6 [0, 1, 100, 50, 0])).1 1 1 (zaw 6 [0, 1, 100, 50, 0])).1 0 2 (zaw 8 [1, 5 * price, 10 * qty])).2.length = 1 := ⟨h3, l3⟩
 clear hD3 hO3 hD2 hO2 hD1 hO1 hD0 hO0
 generalize doD false (wayD 0) 0 1 (zaw 6 [0, 1, 100, 50, 0]) = r1 at *
 generalize doD false r1.1 1 1 (zaw 6 [0, 1, 100, 50, 0]) = r2 at *
 generalize doD false r2.1 0 2 (zaw 8 [1, 5 * price, 10 * qty]) = r3 at *
 refine zan Tryz.func6 rfl rfl Tryz.results6 Tryz.ntmps6 rfl rfl ?_
 all_goals repeat' (first | apply zae | apply zaa | apply zah | apply zad | apply zab hT; iterate 4 exact rfl | (apply zav; exact rfl; all_goals (intro hb; (try dsimp only at hb); (try simp only [hb]); (first | replace hb := odt hb | replace hb := odf hb ); (try omega))) | (apply zam; exact rfl; all_goals (intro hb; (try dsimp only at hb); (try simp only [hb]); (first | replace hb := odt hb | replace hb := odf hb ); (try omega))))
 all_goals (apply zaz; (iterate 7 exact rfl); exact zdn W _ 0 0 hb0 (.inl rfl); rintro _ _ ⟨A1, c1, A2, c2, rfl, rfl⟩)
 all_goals repeat' (first | apply zae | apply zaa | apply zaj | apply zah | apply zas | apply zaf | apply zad | apply zab hT; iterate 4 exact rfl | apply zaq; iterate 3 exact rfl | apply zau; iterate 2 exact rfl | apply zak; iterate 2 exact rfl | apply zag; iterate 2 exact rfl | apply zaN hT; (iterate 4 exact rfl); (iterate 2 omega) | (apply zav; exact rfl; all_goals (intro hb; (try dsimp only at hb); (try simp only [hb]); (first | replace hb := odt hb | replace hb := odf hb | replace hb := zaD hb | replace hb := zaE hb | replace hb := eq_of_beq hb | replace hb := ne_of_beq_false hb); (try omega))) | (apply zam; exact rfl; all_goals (intro hb; (try dsimp only at hb); (try simp only [hb]); (first | replace hb := odt hb | replace hb := odf hb | replace hb := zaD hb | replace hb := zaE hb | replace hb := eq_of_beq hb | replace hb := ne_of_beq_false hb); (try omega))))
 all_goals (apply zaz; (iterate 7 exact rfl); exact zcq W _ 0 (.inl rfl) A1 A2 c1 c2 (by (repeat (first | exact mcs))) (by (repeat (first | exact mcs | apply mcm))); rintro _ _ ⟨x, b0, q0, rfl, rfl, f0⟩)
 all_goals repeat' (first | apply zae | apply zaa | apply zad | apply zab hT; iterate 4 exact rfl)
 all_goals (apply zao (cs := [.int .i64 0, .int .i64 1, .int .i64 100, .int .i64 50, .int .i64 0]) hT; (iterate 12 exact rfl); intro g1)
 all_goals repeat' (first | apply zae | apply zaa | apply zaj | apply zah | apply zas | apply zaf | apply zad | apply zab hT; iterate 4 exact rfl | apply zaq; iterate 3 exact rfl | apply zau; iterate 2 exact rfl | apply zak; iterate 2 exact rfl | apply zag; iterate 2 exact rfl | apply zaN hT; (iterate 4 exact rfl); (iterate 2 omega) | (apply zav; exact rfl; all_goals (intro hb; (try dsimp only at hb); (try simp only [hb]); (first | replace hb := odt hb | replace hb := odf hb | replace hb := zaD hb | replace hb := zaE hb | replace hb := eq_of_beq hb | replace hb := ne_of_beq_false hb); (try omega))) | (apply zam; exact rfl; all_goals (intro hb; (try dsimp only at hb); (try simp only [hb]); (first | replace hb := odt hb | replace hb := odf hb | replace hb := zaD hb | replace hb := zaE hb | replace hb := eq_of_beq hb | replace hb := ne_of_beq_false hb); (try omega))))
 all_goals (apply zac; (iterate 7 exact rfl); exact ofL W _ g1 5 6 [0, 1, 100, 50, 0] (by (repeat (first | exact mcs))) rfl (Nat.le_of_ble_eq_true rfl))
 all_goals repeat' (first | apply zae | apply zaa | apply zaj | apply zah | apply zas | apply zaf | apply zad | apply zab hT; iterate 4 exact rfl | apply zaq; iterate 3 exact rfl | apply zau; iterate 2 exact rfl | apply zak; iterate 2 exact rfl | apply zag; iterate 2 exact rfl | apply zaN hT; (iterate 4 exact rfl); (iterate 2 omega) | (apply zav; exact rfl; all_goals (intro hb; (try dsimp only at hb); (try simp only [hb]); (first | replace hb := odt hb | replace hb := odf hb | replace hb := zaD hb | replace hb := zaE hb | replace hb := eq_of_beq hb | replace hb := ne_of_beq_false hb); (try omega))) | (apply zam; exact rfl; all_goals (intro hb; (try dsimp only at hb); (try simp only [hb]); (first | replace hb := odt hb | replace hb := odf hb | replace hb := zaD hb | replace hb := zaE hb | replace hb := eq_of_beq hb | replace hb := ne_of_beq_false hb); (try omega))))
 all_goals (apply zaz; (iterate 7 exact rfl); exact zaB.perm (d1 _ (x) b0 q0 f0) (by (try unfold zai); (repeat (first | exact List.Perm.refl _ | (apply zaX; · (repeat (first | exact sel0 | apply selS ))) | (apply za0; · (repeat (first | exact zaP | apply zaT )))))); rintro _ _ ⟨y1, b1, q1, B1, e1, rfl, rfl, f1, v1⟩)
 all_goals repeat' (first | apply zae | apply zaa | apply zad | apply zab hT; iterate 4 exact rfl)
 all_goals (apply zao (cs := [.int .i64 0, .int .i64 1, .int .i64 100, .int .i64 50, .int .i64 0]) hT; (iterate 12 exact rfl); intro g2)
 all_goals repeat' (first | apply zae | apply zaa | apply zaj | apply zah | apply zas | apply zaf | apply zad | apply zab hT; iterate 4 exact rfl | apply zaq; iterate 3 exact rfl | apply zau; iterate 2 exact rfl | apply zak; iterate 2 exact rfl | apply zag; iterate 2 exact rfl | apply zaN hT; (iterate 4 exact rfl); (iterate 2 omega) | (apply zav; exact rfl; all_goals (intro hb; (try dsimp only at hb); (try simp only [hb]); (first | replace hb := odt hb | replace hb := odf hb | replace hb := zaD hb | replace hb := zaE hb | replace hb := eq_of_beq hb | replace hb := ne_of_beq_false hb); (try omega))) | (apply zam; exact rfl; all_goals (intro hb; (try dsimp only at hb); (try simp only [hb]); (first | replace hb := odt hb | replace hb := odf hb | replace hb := zaD hb | replace hb := zaE hb | replace hb := eq_of_beq hb | replace hb := ne_of_beq_false hb); (try omega))))
 all_goals (apply zac; (iterate 7 exact rfl); exact ofL W _ g2 5 6 [0, 1, 100, 50, 0] (by (repeat (first | exact mcs))) rfl (Nat.le_of_ble_eq_true rfl))
 all_goals repeat' (first | apply zae | apply zaa | apply zaj | apply zah | apply zas | apply zaf | apply zad | apply zab hT; iterate 4 exact rfl | apply zaq; iterate 3 exact rfl | apply zau; iterate 2 exact rfl | apply zak; iterate 2 exact rfl | apply zag; iterate 2 exact rfl | apply zaN hT; (iterate 4 exact rfl); (iterate 2 omega) | (apply zav; exact rfl; all_goals (intro hb; (try dsimp only at hb); (try simp only [hb]); (first | replace hb := odt hb | replace hb := odf hb | replace hb := zaD hb | replace hb := zaE hb | replace hb := eq_of_beq hb | replace hb := ne_of_beq_false hb); (try omega))) | (apply zam; exact rfl; all_goals (intro hb; (try dsimp only at hb); (try simp only [hb]); (first | replace hb := odt hb | replace hb := odf hb | replace hb := zaD hb | replace hb := zaE hb | replace hb := eq_of_beq hb | replace hb := ne_of_beq_false hb); (try omega))))
 all_goals (apply zaz; (iterate 7 exact rfl); exact zaB.perm (d2 _ (y1.at x.d) b1 q1 f1) (by (try unfold zai); (repeat (first | exact List.Perm.refl _ | (apply zaX; · (repeat (first | exact sel0 | apply selS ))) | (apply za0; · (repeat (first | exact zaP | apply zaT )))))); rintro _ _ ⟨y2, b2, q2, B2, e2, rfl, rfl, f2, v2⟩)
 all_goals repeat' (first | apply zae | apply zaa | apply zad | apply zab hT; iterate 4 exact rfl | apply zaN hT; (iterate 4 exact rfl); (iterate 2 omega))
 all_goals (apply zao (cs := [.int .i64 1, .int .i64 (5 * price), .int .i64 (10 * qty)]) hT; (iterate 12 exact rfl); intro g3)
 all_goals repeat' (first | apply zae | apply zaa | apply zaj | apply zah | apply zas | apply zaf | apply zad | apply zab hT; iterate 4 exact rfl | apply zaq; iterate 3 exact rfl | apply zau; iterate 2 exact rfl | apply zak; iterate 2 exact rfl | apply zag; iterate 2 exact rfl | apply zaN hT; (iterate 4 exact rfl); (iterate 2 omega) | (apply zav; exact rfl; all_goals (intro hb; (try dsimp only at hb); (try simp only [hb]); (first | replace hb := odt hb | replace hb := odf hb | replace hb := zaD hb | replace hb := zaE hb | replace hb := eq_of_beq hb | replace hb := ne_of_beq_false hb); (try omega))) | (apply zam; exact rfl; all_goals (intro hb; (try dsimp only at hb); (try simp only [hb]); (first | replace hb := odt hb | replace hb := odf hb | replace hb := zaD hb | replace hb := zaE hb | replace hb := eq_of_beq hb | replace hb := ne_of_beq_false hb); (try omega))))
 all_goals (apply zac; (iterate 7 exact rfl); exact ofL W _ g3 3 8 [1, 5 * price, 10 * qty] (by (repeat (first | exact mcs))) rfl (Nat.le_of_ble_eq_true rfl))
 all_goals repeat' (first | apply zae | apply zaa | apply zaj | apply zah | apply zas | apply zaf | apply zad | apply zab hT; iterate 4 exact rfl | apply zaq; iterate 3 exact rfl | apply zau; iterate 2 exact rfl | apply zak; iterate 2 exact rfl | apply zag; iterate 2 exact rfl | apply zaN hT; (iterate 4 exact rfl); (iterate 2 omega) | (apply zav; exact rfl; all_goals (intro hb; (try dsimp only at hb); (try simp only [hb]); (first | replace hb := odt hb | replace hb := odf hb | replace hb := zaD hb | replace hb := zaE hb | replace hb := eq_of_beq hb | replace hb := ne_of_beq_false hb); (try omega))) | (apply zam; exact rfl; all_goals (intro hb; (try dsimp only at hb); (try simp only [hb]); (first | replace hb := odt hb | replace hb := odf hb | replace hb := zaD hb | replace hb := zaE hb | replace hb := eq_of_beq hb | replace hb := ne_of_beq_false hb); (try omega))))
 all_goals (apply zaz; (iterate 7 exact rfl); exact zaB.perm (d3 _ (y2.at x.d) b2 q2 f2) (by (try unfold zai); (repeat (first | exact List.Perm.refl _ | (apply zaX; · (repeat (first | exact sel0 | apply selS ))) | (apply za0; · (repeat (first | exact zaP | apply zaT )))))); rintro _ _ ⟨y3, b3, q3, B3, e3, rfl, rfl, f3, v3⟩)
 rw [l3] at v3 ⊢
 obtain ⟨bd, hb1, hb2⟩ : ∃ bd, b3[0]? = some bd ∧ bd.l = B := by
  have := f3.1
  rw [← this, List.getElem?_map] at hB
  rcases hb : b3[0]? with _ | bd
  ·rw [hb] at hB; cases hB
  ·rw [hb] at hB; exact ⟨bd, rfl, Option.some.inj hB⟩
 have hBk : zbh bd.l := hb2 ▸ hBB B (List.mem_of_getElem? hB)
 have hbk : ∀ c ∈ BAd.ck bd, c ∈ b3.flatMap BAd.ck := fun c hc => List.mem_flatMap.2 ⟨bd, List.mem_of_getElem? hb1, hc⟩
 have hS2 : zbf 1 bd.l = [x1, x2] := by rw [hb2]; exact hS
 have hlb : b3.length = r3.1.books.length := by rw [← f3.1, List.length_map]
 have hl4 : b3.length ≤ 1000000 := by rw [hlb]; have := hfew; omega
 all_goals repeat' (first | apply zae | apply zaa | apply zad | apply zab hT; iterate 4 exact rfl)
 all_goals (apply zac; (iterate 7 exact rfl); exact (zmz W (y3.at x.d) r3.1 b3 0 bd hlb hb1 hl4).mono (zbx (by (try unfold zai); (repeat (first | exact mcs | apply mcm))) (by (try unfold zai); (repeat (first | exact mcs | apply mcm)))))
 all_goals repeat' (first | apply zae | apply zaa | apply zaj | apply zah | apply zas | apply zaf | apply zad | apply zab hT; iterate 4 exact rfl | apply zaq; iterate 3 exact rfl | apply zau; iterate 2 exact rfl | apply zak; iterate 2 exact rfl | apply zag; iterate 2 exact rfl | apply zaN hT; (iterate 4 exact rfl); (iterate 2 omega) | (apply zav; exact rfl; all_goals (intro hb; (try dsimp only at hb); (try simp only [hb]); (first | replace hb := odt hb | replace hb := odf hb | replace hb := zaD hb | replace hb := zaE hb | replace hb := eq_of_beq hb | replace hb := ne_of_beq_false hb); (try omega))) | (apply zam; exact rfl; all_goals (intro hb; (try dsimp only at hb); (try simp only [hb]); (first | replace hb := odt hb | replace hb := odf hb | replace hb := zaD hb | replace hb := zaE hb | replace hb := eq_of_beq hb | replace hb := ne_of_beq_false hb); (try omega))))
 all_goals (apply zaz; (iterate 7 exact rfl); exact zd8 W _ bd.p bd.s.A bd.s.c bd.l 1 (by (try unfold zai); (repeat (first | exact List.mem_append_left _ (hbk _ mem0) | apply mcm))) (by (try unfold zai); (repeat (first | exact List.mem_append_left _ (hbk _ mem1) | apply mcm))) hBk.le hBk.seq hBk.side; rintro _ _ ⟨A4, c4, rfl, rfl, v4⟩)
 rw [hS2] at v4 ⊢
 all_goals repeat' (first | apply zae | apply zaa | apply zad | apply zab hT; iterate 4 exact rfl)
 all_goals (apply zac; (iterate 7 exact rfl); exact zin W _ B3 e3 r3.2 l3 h3 (v3.reads (by (repeat (first | exact mcs | apply mcm)))))
 all_goals have hA4 : A4.isSome = true := v4.some_ (by show 0 < 2; omega)
 all_goals have i0 : [x1, x2][(0 : Int).toNat]? = some x1 := rfl
 all_goals have i1 : [x1, x2][(1 : Int).toNat]? = some x2 := rfl
 all_goals rcases hc : chgF price qty with _ | _
 all_goals first | (have hL := hF0 hc) | (have hL := hF1 hc)
 all_goals unfold chgL at hL
 all_goals simp only [Bool.and_eq_true, beq_iff_eq] at hL
 all_goals obtain ⟨⟨⟨g1, g2⟩, g3⟩, g4⟩ := hL
 all_goals unfold chgF at hc
 all_goals simp only [Bool.or_eq_true, Bool.and_eq_true, decide_eq_true_eq, beq_iff_eq, Bool.or_eq_false_iff, Bool.and_eq_false_iff, decide_eq_false_iff_not, beq_eq_false_iff_ne, ne_eq] at hc
 all_goals repeat' (first | apply zae | apply zaa | apply zah | apply zad | apply zab hT; iterate 4 exact rfl | apply zaq; iterate 3 exact rfl | apply zak; iterate 2 exact rfl | apply zag; iterate 2 exact rfl | (apply zaS hT; (iterate 8 exact rfl); (iterate 2 (first | omega | show (_ : Int) < 2; omega)); exact hA4) | (apply zal; (iterate 5 exact rfl); first | exact zbb hT rfl rfl (v4.reads (by (repeat (first | exact mcs )))) zaA.enc_len (by rw [zaW]; rfl) i0 (f := 0) (by decide) rfl | exact zbb hT rfl rfl (v4.reads (by (repeat (first | exact mcs )))) zaA.enc_len (by rw [zaW]; rfl) i0 (f := 4) (by decide) rfl | exact zbb hT rfl rfl (v4.reads (by (repeat (first | exact mcs )))) zaA.enc_len (by rw [zaW]; rfl) i0 (f := 5) (by decide) rfl | exact zbb hT rfl rfl (v4.reads (by (repeat (first | exact mcs )))) zaA.enc_len (by rw [zaW]; rfl) i1 (f := 0) (by decide) rfl | exact zbb hT rfl rfl (v4.reads (by (repeat (first | exact mcs )))) zaA.enc_len (by rw [zaW]; rfl) i1 (f := 4) (by decide) rfl | exact zbb hT rfl rfl (v4.reads (by (repeat (first | exact mcs )))) zaA.enc_len (by rw [zaW]; rfl) i1 (f := 5) (by decide) rfl) | (apply zaN hT; (iterate 4 exact rfl); (iterate 2 omega)) | (apply zav; exact rfl; all_goals (intro hb; (try dsimp only at hb); (try simp only [hb]); (first | replace hb := odt hb | replace hb := odf hb ); (try omega))) | (apply zam; exact rfl; all_goals (intro hb; (try dsimp only at hb); (try simp only [hb]); (first | replace hb := odt hb | replace hb := odf hb ); (try omega))))
 all_goals (apply zaz; (iterate 7 exact rfl); exact zcW W _; rintro _ _ ⟨rfl, rfl⟩)
 all_goals repeat' (first | apply zaj | apply zad | apply zab hT; iterate 4 exact rfl)
 all_goals (apply ret1; exact rfl; exact ⟨[], zcv, rfl⟩)
theorem zjU (W : World) (price qty : Int) : zaB Tryz.prog W 6 [.int .i64 price, .int .i64 qty] [] (fun v _ => v = .bool true) := by
 by_cases h : price < 1 ∨ 100 < price ∨ qty < 1 ∨ 10 < qty
 ·exact chgX W price qty h
 ·exact chg0 W price qty (by omega) (by omega) (by omega) (by omega)
end Go.Proofs.YtakilgkpfjhfdaaGreat
namespace Go.Proofs.YtakilgkpfjhfdaaGreat
namespace deskChanges
open Go Go.Sl Go.ChangeShapes Go.WideShapes Go.ChangeAt Go.RowKit
theorem own : ownKnob Tryz.prog.godebug = none := by kernel_rfl
theorem zdd : laidOutB Tryz.prog = true := by kernel_rfl
set_option maxRecDepth 100000 in
theorem zeg (os : Os) (started : os.Started) (H : Type) (enc : TypeId × Value → H) :
 ReturnsInHanded {} Tryz.checked os 6 .any (Rows.deskChangesSpec.pre6 enc Tryz.prog Tryz.f6 Rows.deskChangesRow.domain false) (Rows.deskChangesSpec.post enc Tryz.prog Tryz.f6 false true false false) := by
 refine returnsInHanded_of_change (C := Tryz.checked) own started (by kernel_rfl) Tryz.func6
  (ChangeSpec.witness6 (enc := enc) (C := Tryz.checked) false ⟨#[], #[.int .i64 0, .int .i64 0], []⟩ 8 (by kernel_rfl) (by kernel_rfl) (by kernel_rfl) (by kernel_rfl)) ?_
 intro W base args ds gs before hval0 hW hcnd _
 have hval : ∀ (j : Nat) t v, Tryz.f6.params[j]? = some t → args[j]? = some v → Value.okWide Tryz.prog W .any base t v := hval0
 have hW' := hW
 obtain ⟨p, q, hA0, hV, rfl, hfz, hnd⟩ := hW
 have hA : DataW.TrodAll enc Tryz.prog W 0 (fun _ => true) true Tryz.f6.params.toList args.toList ds p := hA0
 obtain ⟨rfl, rfl⟩ := trodVars_none hV
 simp only [List.append_nil] at hW'
 have hA1 := hA
 rw [Tryz.params6] at hA1 hval
 obtain ⟨v0, vs0, d0, ds0, p0, q0, hargs, rfl, rfl, h0, r0⟩ := trodAll_cons hA1
 obtain ⟨v1, vs1, d1, ds1, p1, q1, rfl, rfl, rfl, h1, r1⟩ := trodAll_cons r0
 obtain ⟨rfl, rfl, rfl⟩ := trodAll_nil r1
 obtain rfl : args = #[v0, v1] := by cases args; simp_all
 obtain ⟨a0, rfl, _, _, w0⟩ := open_int Tryz.underlying2 (hval 0 2 v0 rfl rfl) h0
 obtain ⟨a1, rfl, _, _, w1⟩ := open_int Tryz.underlying2 (hval 1 2 v1 rfl rfl) h1
 refine (zaB.row (zjU W a0 a1) (fun _ _ h => h)).mono fun e W' ⟨he, hb⟩ => ?_
 subst he
 exact ⟨_, rfl, zen hW' hA zdd (by kernel_rfl) rfl rfl Tryz.underlying4 rfl rfl rfl hb⟩
theorem zg2 : Tryz.prog.funcNamed Rows.deskChangesRow.func = some 6 := by kernel_rfl
set_option maxRecDepth 100000 in
set_option maxHeartbeats 8000000 in
theorem zeh : joinedFacts Tryz.prog 6 Tryz.f6 Rows.deskChangesSpec Rows.deskChangesRow = true := by
 unfold joinedFacts
 simp only [Bool.and_eq_true]
 repeat' apply And.intro
 all_goals decide +kernel
theorem inst : Tryz.f6.isInstance Tryz.prog Rows.deskChangesRow.origin Rows.deskChangesRow.targs := odt (by kernel_rfl)
theorem over : Rows.deskChangesRow.holds Tryz.pinned (OpenSpec.ofChange Rows.deskChangesSpec) :=
 OpenClaim.holds_of_wide 6 Tryz.f6 rfl rfl rfl rfl rfl rfl rfl ⟨rfl, rfl, rfl, rfl, rfl⟩ rfl rfl rfl rfl rfl zg2 Tryz.func6 zeh
  inst (by unfold Func.isWrapper; first | (rw [if_pos (by decide +kernel)]; kernel_rfl) | (rw [if_neg (by decide +kernel)]; exact ⟨rfl, rfl⟩))
  (fun os started H enc _ => zeg os started H enc)
end deskChanges
theorem deskChanges_holds : Rows.DeskChangesSaid := deskChanges.over
#print axioms deskChanges_holds
end Go.Proofs.YtakilgkpfjhfdaaGreat
