/- The statements' walks, and what they stand on, joined into few texts: part 5. Conditions stand in each statement. -/
import Derived.Test.YtakilgkpfjhfdaaGreatBndF4
set_option linter.all false
namespace Go.Proofs.YtakilgkpfjhfdaaGreat
open Go Go.Sl
attribute [local irreducible] AW ES EP Ld RetQ
set_option maxRecDepth 100000
theorem za1 {h L h2 h' : List zax} (hp : h.Perm (L ++ h2)) (hd : zbk h2 h') : zbk h (L ++ h') := by
 obtain ⟨J, hJ⟩ := hd
 refine ⟨J, hp.trans ((hJ.append_left L).trans ?_)⟩
 rw [← List.append_assoc, ← List.append_assoc]
 exact List.perm_append_comm.append_right h'
theorem zm0 (W : World) (F : List zax) (p : Nat) (AC : Option Addr) (cC : Nat) (AR : Option Addr) (cR : Nat) (cash : List Int) (rs : List PRow) (np nb : Nat) (hP : PsOK np nb (psOf cash rs)) (t : zbc) (hpr : inW t.price) (hqt : inW t.qty) :
 zaB Tryz.prog W 157 [.pointer (some ⟨p, 0, none⟩), .agg t.enc.toArray] (zcE p AC cC AR cR cash rs F) (fun v h' => v = .int .i64 (putE (psOf cash rs) t) ∧ ∃ cash' rs', psOf cash' rs' = putP (psOf cash rs) t ∧ h' = zcE p AC cC AR cR cash' rs' F) := by
 by_cases hbad : zdr (psOf cash rs) t.buyer t.bond = false ∨ zdr (psOf cash rs) t.seller t.bond = false ∨ t.buyer = t.seller ∨ t.price < 1 ∨ t.qty < 1
 ·refine (zk3 W F p AC cC AR cR cash rs np nb hP t hbad).mono ?_
  rintro v h' ⟨rfl, rfl⟩
  have he : putE (psOf cash rs) t = 1 := by unfold putE; rw [if_pos hbad]
  exact ⟨by rw [he], cash, rs, by unfold putP; rw [if_neg (by rw [he]; decide)], rfl⟩
 ·exact zmK W F p AC cC AR cR cash rs np nb hP t hpr hqt hbad
set_option maxHeartbeats 4000000 in
theorem zgR (W : World) (F : List zax) (x : DAd) (s : Dk) (bks : List BAd) (rows : List PRow) (g : Nat) (cw id0 : Int) (o : Sp) (outs : List OutR) (sd who other bond price qty ask : Int) (np nb : Nat) (hf : za6 s bks rows) (hP0 : PsOK np nb ⟨s.cash, s.pos⟩) (hh : 0 ≤ s.head ∧ s.head ≤ 18446744073709551615) (ht : s.trades.length ≤ 900000)
 (hW : zhB (zb1 s sd who other bond price qty ask)) (hbo : outs.length ≤ 1000000) :
 zaB Tryz.prog W 113 [ptrV x.d, ptrV g, .int .i64 sd, .int .i64 who, .int .i64 other, .agg (zbc.enc ⟨0, bond, 0, 0, price, qty, ask, 0⟩).toArray] (zap g cw id0 o outs (zai x s bks rows F))
  (fun v h' => v = .tuple #[] ∧ ∃ (y : DAd) (o' : Sp) (rows' : List PRow), h' = zap g cw id0 o' (outs ++ zds (zb1 s sd who other bond price qty ask)) (zai (y.at x.d) (zdi s (zb1 s sd who other bond price qty ask)) bks rows' F) ∧ za6 (zdi s (zb1 s sd who other bond price qty ask)) bks rows') := by
 refine zaB.dropTo ?_
 obtain ⟨hn, hhn⟩ := Int.eq_ofNat_of_zero_le hh.1
 have hx : hn < 2 ^ 64 := by show hn < 18446744073709551616; omega
 have hP : PsOK np nb (psOf s.cash rows) := by unfold psOf; rw [hf.2]; exact hP0
 have hpr : inW price := by
  unfold zb1 at hW
  split at hW <;> exact hW _ (by simp)
 have hqt : inW qty := by
  unfold zb1 at hW
  split at hW <;> exact hW _ (by simp)
 unfold zb1 at hW ⊢
 by_cases hs : sd = 2
 ·rw [if_pos hs] at hW ⊢
  subst hs
  have hPut := fun G => zm0 W G x.p x.cash.A x.cash.c x.pos.A x.pos.c s.cash rows np nb hP ⟨0, bond, other, who, price, qty, ask, s.now⟩ hpr hqt
  have hAdd := fun G => zki W G x.b x.trades.A x.trades.c s.trades hn ⟨0, bond, other, who, price, qty, ask, s.now⟩ ⟨s.trades.length + 1, bond, other, who, price, qty, ask, s.now⟩ hx (by omega) rfl hW
  have hCf := fun h => zmG W h ⟨s.trades.length + 1, bond, other, who, price, qty, ask, s.now⟩
  unfold zai
  unfold zap
  rw [hhn]
  refine zan Tryz.func113 rfl rfl Tryz.results113 Tryz.ntmps113 rfl rfl ?_
  repeat' (first | apply zae | apply zaa | apply zad | apply zab hT; iterate 4 exact rfl | (apply zb8 [] [] (.step 0 <| .step 1 <| .step 2 <| .step 3 <| .step 4 <| .step 6 <| .alt (.step 5 <| .step 7 <| .step 8 <| .step 9 <| .step 10 <| .step 11 <| .nil) ((.step 7 <| .step 8 <| .alt (.step 5 <| .step 9 <| .step 10 <| .step 11 <| .nil) ((.step 9 <| .step 5 <| .step 10 <| .step 11 <| .nil))))) hmix; decide +kernel) | apply zcX | apply zeZ | apply zbN; exact rfl | (apply zel [.blk g 99 [.int .i64 cw, .int .i64 id0, o.sl outs.length], .blk g11 103 (zbc.enc ⟨0, bond, other, who, price, qty, ask, s.now⟩), .blk x.d 95 (zb0 x s)] [] [159, 158] (.step 0 <| .step 1 <| .step 2 <| .step 3 <| .step 4 <| .step 5 <| .step 6 <| .step 7 <| .step 8 <| .step 9 <| .step 10 <| .step 11 <| .step 12 <| .step 13 <| .step 14 <| .step 15 <| .nil) hmix; decide +kernel) | apply zaM [] [] hmix; decide +kernel | apply zaK; (iterate 5 exact rfl); intro g11 | (apply zaF hT; (iterate 6 exact rfl); (repeat (first | exact sel0 | apply selS | apply zbO)); (iterate 3 exact rfl); exact nle rfl) | (apply zaz (hs := (zaB.perm (hPut _) (by (repeat (first | exact List.Perm.refl _ | (apply zaX; · (repeat (first | exact sel0 | apply selS | apply zbO))) | (apply za0; · (repeat (first | exact zaP | apply zaT | apply zkg)))))))); (iterate 7 exact rfl); rintro _ _ ⟨rfl, cash2, rows2, hps2, rfl⟩) | (apply zcr (hs := (zaB.perm (hAdd _) (by (repeat (first | exact List.Perm.refl _ | (apply zaX; · (repeat (first | exact sel0 | apply selS | apply zbO))) ))))); (iterate 7 exact rfl); (rintro _ _ ⟨rfl, A4, c4, rfl⟩; refine ⟨zd0 (by (repeat (first | exact mcs | apply mcm | apply mar))) (by (repeat (first | exact mcs | apply mcm | apply mar))) (by (repeat (first | exact mcs | apply mcm | apply mar))), ?_⟩)) | (apply zcr (hs := (hCf _)); (iterate 7 exact rfl); (rintro _ _ ⟨gc, rfl, rfl⟩; refine ⟨zd0 (by (repeat (first | exact mcs | apply mcm | apply mar))) (by (repeat (first | exact mcs | apply mcm | apply mar))) (by (repeat (first | exact mcs | apply mcm | apply mar))), ?_⟩)) | (apply zhm hT; (iterate 10 exact rfl); (repeat (first | exact sel0 | apply selS | apply zbO)); exact zaJ.enc OutR.enc_len OutR.enc_one mem0 rfl; exact zd0 (by (repeat (first | exact mcs | apply mcm | apply mar))) (by (repeat (first | exact mcs | apply mcm | apply mar))) (by (repeat (first | exact mcs | apply mcm | apply mar))); omega; (show (_ : Nat) * 64 ≤ _; omega); intro A' c') | ((first | apply zal; iterate 5 exact rfl | (apply zej; (iterate 5 exact rfl); first | exact zd0 (by (repeat (first | exact mcs | apply mcm | apply mar))) (by (repeat (first | exact mcs | apply mcm | apply mar))) (by (repeat (first | exact mcs | apply mcm | apply mar))))); first | (apply zaC hT; exact rfl; exact rfl; (repeat (first | exact mcs | apply mcm )); exact rfl; exact rfl) | (apply zaQ hT; exact rfl; exact rfl; (repeat (first | exact mcs | apply mcm )); exact rfl)) | (apply zak; iterate 2 exact rfl))
  all_goals
   unfold psOf at hps2
   rw [hf.2] at hps2
   obtain rfl : cash2 = (zdi s ⟨s.trades.length + 1, bond, other, who, price, qty, ask, s.now⟩).cash := congrArg Ps.cash hps2
   have hch : (zdi s ⟨s.trades.length + 1, bond, other, who, price, qty, ask, s.now⟩).head = ((zc8 hn (zcf ⟨s.trades.length + 1, bond, other, who, price, qty, ask, s.now⟩) : Nat) : Int) := by
    show ((zc8 s.head.toNat (zcf ⟨s.trades.length + 1, bond, other, who, price, qty, ask, s.now⟩) : Nat) : Int) = _
    rw [hhn]; rfl
   apply zkB
   refine ⟨zap g cw id0 ⟨A', c'⟩ (outs ++ zds ⟨s.trades.length + 1, bond, other, who, price, qty, ask, s.now⟩) (zai (({ x with trades := ⟨A4, c4⟩ } : DAd).at x.d) (zdi s ⟨s.trades.length + 1, bond, other, who, price, qty, ask, s.now⟩) bks rows2 F), ?_, rfl, { x with trades := ⟨A4, c4⟩ }, ⟨A', c'⟩, rows2, rfl, hf.1, congrArg Ps.pos hps2⟩
   unfold zap zai
   rw [hch, show (outs ++ zds ⟨s.trades.length + 1, bond, other, who, price, qty, ask, s.now⟩).length = outs.length + 2 from List.length_append, show (outs ++ zds ⟨s.trades.length + 1, bond, other, who, price, qty, ask, s.now⟩).flatMap OutR.enc = outs.flatMap OutR.enc ++ (zds ⟨s.trades.length + 1, bond, other, who, price, qty, ask, s.now⟩).flatMap OutR.enc from List.flatMap_append]
   (repeat (first | exact zar | (apply zay; · (repeat (first | exact sel0 | apply selS | apply zbO))) | (apply za1; · (repeat (first | exact zaP | apply zaT | apply zkg))) | apply zat))
 ·rw [if_neg hs] at hW ⊢
  have hPut := fun G => zm0 W G x.p x.cash.A x.cash.c x.pos.A x.pos.c s.cash rows np nb hP ⟨0, bond, who, other, price, qty, ask, s.now⟩ hpr hqt
  have hAdd := fun G => zki W G x.b x.trades.A x.trades.c s.trades hn ⟨0, bond, who, other, price, qty, ask, s.now⟩ ⟨s.trades.length + 1, bond, who, other, price, qty, ask, s.now⟩ hx (by omega) rfl hW
  have hCf := fun h => zmG W h ⟨s.trades.length + 1, bond, who, other, price, qty, ask, s.now⟩
  unfold zai
  unfold zap
  rw [hhn]
  refine zan Tryz.func113 rfl rfl Tryz.results113 Tryz.ntmps113 rfl rfl ?_
  repeat' (first | apply zae | apply zaa | apply zah | apply zad | apply zab hT; iterate 4 exact rfl | (apply zb8 [] [] (.step 0 <| .step 1 <| .step 2 <| .step 3 <| .step 4 <| .step 6 <| .alt (.step 5 <| .step 7 <| .step 8 <| .step 9 <| .step 10 <| .step 11 <| .nil) ((.step 7 <| .step 8 <| .alt (.step 5 <| .step 9 <| .step 10 <| .step 11 <| .nil) ((.step 9 <| .step 5 <| .step 10 <| .step 11 <| .nil))))) hmix; decide +kernel) | apply zcX | apply zeZ | apply zbN; exact rfl | (apply zel [.blk g 99 [.int .i64 cw, .int .i64 id0, o.sl outs.length], .blk g11 103 (zbc.enc ⟨0, bond, who, other, price, qty, ask, s.now⟩), .blk x.d 95 (zb0 x s)] [] [159, 158] (.step 0 <| .step 1 <| .step 2 <| .step 3 <| .step 4 <| .step 5 <| .step 6 <| .step 7 <| .step 8 <| .step 9 <| .step 10 <| .step 11 <| .step 12 <| .step 13 <| .step 14 <| .step 15 <| .nil) hmix; decide +kernel) | apply zaM [] [] hmix; decide +kernel | apply zaK; (iterate 5 exact rfl); intro g11 | (apply zaF hT; (iterate 6 exact rfl); (repeat (first | exact sel0 | apply selS | apply zbO)); (iterate 3 exact rfl); exact nle rfl) | (apply zaz (hs := (zaB.perm (hPut _) (by (repeat (first | exact List.Perm.refl _ | (apply zaX; · (repeat (first | exact sel0 | apply selS | apply zbO))) | (apply za0; · (repeat (first | exact zaP | apply zaT | apply zkg)))))))); (iterate 7 exact rfl); rintro _ _ ⟨rfl, cash2, rows2, hps2, rfl⟩) | (apply zcr (hs := (zaB.perm (hAdd _) (by (repeat (first | exact List.Perm.refl _ | (apply zaX; · (repeat (first | exact sel0 | apply selS | apply zbO))) ))))); (iterate 7 exact rfl); (rintro _ _ ⟨rfl, A4, c4, rfl⟩; refine ⟨zd0 (by (repeat (first | exact mcs | apply mcm | apply mar))) (by (repeat (first | exact mcs | apply mcm | apply mar))) (by (repeat (first | exact mcs | apply mcm | apply mar))), ?_⟩)) | (apply zcr (hs := (hCf _)); (iterate 7 exact rfl); (rintro _ _ ⟨gc, rfl, rfl⟩; refine ⟨zd0 (by (repeat (first | exact mcs | apply mcm | apply mar))) (by (repeat (first | exact mcs | apply mcm | apply mar))) (by (repeat (first | exact mcs | apply mcm | apply mar))), ?_⟩)) | (apply zhm hT; (iterate 10 exact rfl); (repeat (first | exact sel0 | apply selS | apply zbO)); exact zaJ.enc OutR.enc_len OutR.enc_one mem0 rfl; exact zd0 (by (repeat (first | exact mcs | apply mcm | apply mar))) (by (repeat (first | exact mcs | apply mcm | apply mar))) (by (repeat (first | exact mcs | apply mcm | apply mar))); omega; (show (_ : Nat) * 64 ≤ _; omega); intro A' c') | ((first | apply zal; iterate 5 exact rfl | (apply zej; (iterate 5 exact rfl); first | exact zd0 (by (repeat (first | exact mcs | apply mcm | apply mar))) (by (repeat (first | exact mcs | apply mcm | apply mar))) (by (repeat (first | exact mcs | apply mcm | apply mar))))); first | (apply zaC hT; exact rfl; exact rfl; (repeat (first | exact mcs | apply mcm )); exact rfl; exact rfl) | (apply zaQ hT; exact rfl; exact rfl; (repeat (first | exact mcs | apply mcm )); exact rfl)) | (apply zam; exact rfl; all_goals (intro hb; (try dsimp only at hb); (try simp only [hb]); (first | replace hb := odt hb | replace hb := odf hb ); (try omega))))
  all_goals
   unfold psOf at hps2
   rw [hf.2] at hps2
   obtain rfl : cash2 = (zdi s ⟨s.trades.length + 1, bond, who, other, price, qty, ask, s.now⟩).cash := congrArg Ps.cash hps2
   have hch : (zdi s ⟨s.trades.length + 1, bond, who, other, price, qty, ask, s.now⟩).head = ((zc8 hn (zcf ⟨s.trades.length + 1, bond, who, other, price, qty, ask, s.now⟩) : Nat) : Int) := by
    show ((zc8 s.head.toNat (zcf ⟨s.trades.length + 1, bond, who, other, price, qty, ask, s.now⟩) : Nat) : Int) = _
    rw [hhn]; rfl
   apply zkB
   refine ⟨zap g cw id0 ⟨A', c'⟩ (outs ++ zds ⟨s.trades.length + 1, bond, who, other, price, qty, ask, s.now⟩) (zai (({ x with trades := ⟨A4, c4⟩ } : DAd).at x.d) (zdi s ⟨s.trades.length + 1, bond, who, other, price, qty, ask, s.now⟩) bks rows2 F), ?_, rfl, { x with trades := ⟨A4, c4⟩ }, ⟨A', c'⟩, rows2, rfl, hf.1, congrArg Ps.pos hps2⟩
   unfold zap zai
   rw [hch, show (outs ++ zds ⟨s.trades.length + 1, bond, who, other, price, qty, ask, s.now⟩).length = outs.length + 2 from List.length_append, show (outs ++ zds ⟨s.trades.length + 1, bond, who, other, price, qty, ask, s.now⟩).flatMap OutR.enc = outs.flatMap OutR.enc ++ (zds ⟨s.trades.length + 1, bond, who, other, price, qty, ask, s.now⟩).flatMap OutR.enc from List.flatMap_append]
   (repeat (first | exact zar | (apply zay; · (repeat (first | exact sel0 | apply selS | apply zbO))) | (apply za1; · (repeat (first | exact zaP | apply zaT | apply zkg))) | apply zat))
theorem DOK.psok {N : Nat} {s : Dk} (h : DOK N s) : PsOK s.parties.length s.bonds.length ⟨s.cash, s.pos⟩ := ⟨h.ncash, h.npos, fun r hr => (h.pos r hr).1, h.cash, fun r hr => (h.pos r hr).2⟩
theorem zi1 {d : Dk} {s who other bond price qty ask : Int} (h1 : d.trades.length ≤ 900000) (h2 : inW who) (h3 : inW other) (h4 : inW bond) (h5 : inW price) (h6 : inW qty) (h7 : inW ask) (h8 : inW d.now) : zhB (zb1 d s who other bond price qty ask) := by
 have h0 : inW ((d.trades.length : Int) + 1) := by unfold inW; omega
 unfold zhB zb1
 split <;> (intro n hn; simp only [List.mem_cons, List.not_mem_nil, or_false] at hn; rcases hn with rfl | rfl | rfl | rfl | rfl | rfl | rfl | rfl <;> assumption)
theorem zog {s : Dk} {id : Int} : getV (getQ id s.quotes) = .tuple #[.agg (qOf s id).enc.toArray, .bool (getQ id s.quotes).isSome] := by
 unfold qOf
 rcases getQ id s.quotes with _ | q
 ·rfl
 ·rfl
theorem zm1 {N : Nat} {s : Dk} (hD : DOK N s) (id : Int) : (0 ≤ (qOf s id).price ∧ (qOf s id).price ≤ 1000000) ∧ 0 ≤ (qOf s id).dealer ∧ (qOf s id).dealer ≤ 8 := by
 have h8 := hD.few
 unfold qOf
 rcases hg : getQ id s.quotes with _ | q
 ·exact ⟨⟨Int.le_refl _, by decide⟩, Int.le_refl _, by decide⟩
 ·obtain ⟨_, ⟨d0, d1⟩, ⟨p0, p1⟩, _⟩ := hD.qs q (zib hg).1
  dsimp only [Option.getD_some]
  omega
set_option maxHeartbeats 8000000 in
theorem zhH (W : World) (F : List zax) (x : DAd) (s : Dk) (bks : List BAd) (rows : List PRow) (N : Nat) (hD : DOK N s) (hN : N ≤ 10000) (hf : za6 s bks rows) (g : Nat) (who id0 : Int) (o : Sp) (outs : List OutR) (m : MsgR) (hk : m.kind = 14 ∨ m.kind = 15) (hbo : outs.length ≤ 900000) :
 zaB Tryz.prog W 64 [ptrV x.d, ptrV g, .agg m.enc.toArray] (zap g who id0 o outs (zai x s bks rows F)) (za7 x g who outs F (zdB false s who m.kind m.f0)) := by
 refine zaB.dropTo ?_
 have hla : s.asks.length ≤ 1000000 := by have := hD.na; omega
 have hlq : s.quotes.length ≤ 1000000 := by have := hD.nq; omega
 have hld : s.due.length ≤ 1000000 := by have := hD.nd; omega
 have hbo2 : outs.length ≤ 1000000 := by omega
 have hnw := hD.now
 have h8 := hD.few
 have hG := zgs W x.a x.asks.A x.asks.c s.asks m.f0 hla hD.upa
 unfold zdB
 rcases hg : getA m.f0 s.asks with _ | a
 ·rw [hg] at hG
  dsimp only
  unfold zai
  unfold zap
  refine zan Tryz.func64 rfl rfl Tryz.results64 Tryz.ntmps64 rfl rfl ?_
  repeat' (first | apply zae | apply zaa | apply zaj | apply zaf | apply zad | apply zab hT; iterate 4 exact rfl | apply zaM [51, 106] [] hmix; decide +kernel | apply zaK; (iterate 5 exact rfl); intro g5 | (apply zaI hT; (iterate 5 exact rfl); first | (fail_if_success (have q := g7)); intro g7) | (apply zaF hT; (iterate 6 exact rfl); (repeat (first | exact sel0 )); (iterate 3 exact rfl); exact nle rfl) | (apply zaZ hT; (iterate 9 exact rfl); (iterate 2 omega)) | (apply zac; (iterate 7 exact rfl); exact ((hG.mono (zbx (by (repeat (first | exact mcs | apply mcm ))) (by (repeat (first | exact mcs | apply mcm ))))))) | (apply zal; (iterate 5 exact rfl); first | (apply zaC hT; exact rfl; exact rfl; (repeat (first | exact mcs | apply mcm )); exact rfl; exact rfl) ) | (apply zak; iterate 2 exact rfl))
  all_goals first
   | (exfalso; omega)
   | (apply ret1; exact rfl; exact ⟨zap g who id0 o outs (zai x s bks rows F), by (unfold zap zai; (repeat (first | exact zar | (apply zay; · (repeat (first | exact sel0 | apply selS ))) | apply zat))), za7.bad' (by decide) hf⟩)
   | skip
 ·rw [hg] at hG
  dsimp only
  have ham := zbH hg
  have haO := hD.as_ a ham.1
  obtain ⟨⟨i0, i1⟩, ⟨b0, b1⟩, _, ⟨q0, q1⟩, ⟨c0, c1⟩, ⟨d0, d1⟩, ⟨e0, e1⟩⟩ := haO
  by_cases hst : a.state ≠ 2
  ·rw [if_pos hst]
   unfold zai
   unfold zap
   refine zan Tryz.func64 rfl rfl Tryz.results64 Tryz.ntmps64 rfl rfl ?_
   repeat' (first | apply zae | apply zaa | apply zaj | apply zaf | apply zad | apply zab hT; iterate 4 exact rfl | apply zaM [51, 106] [] hmix; decide +kernel | apply zaK; (iterate 5 exact rfl); intro g5 | (apply zaI hT; (iterate 5 exact rfl); first | (fail_if_success (have q := g7)); intro g7) | (apply zaF hT; (iterate 6 exact rfl); (repeat (first | exact sel0 )); (iterate 3 exact rfl); exact nle rfl) | (apply zaZ hT; (iterate 9 exact rfl); (iterate 2 omega)) | (apply zac; (iterate 7 exact rfl); exact ((hG.mono (zbx (by (repeat (first | exact mcs | apply mcm ))) (by (repeat (first | exact mcs | apply mcm ))))))) | (apply zal; (iterate 5 exact rfl); first | (apply zaC hT; exact rfl; exact rfl; (repeat (first | exact mcs | apply mcm )); exact rfl; exact rfl) ) | (apply zag; iterate 2 exact rfl) | (apply zam; exact rfl; all_goals (intro hb; (try dsimp only at hb); (try simp only [hb]); (first | replace hb := zaD hb | replace hb := zaE hb ); (try omega))))
   all_goals first
    | (exfalso; omega)
    | (apply ret1; exact rfl; exact ⟨zap g who id0 o outs (zai x s bks rows F), by (unfold zap zai; (repeat (first | exact zar | (apply zay; · (repeat (first | exact sel0 | apply selS ))) | apply zat))), za7.bad' (by decide) hf⟩)
    | skip
  ·rw [if_neg hst]
   have hQ := (zh3 W x.q x.quotes.A x.quotes.c s.quotes a.hit hlq hD.upq).cast (zog (s := s))
   obtain ⟨⟨p0, p1⟩, dl0, dl1⟩ := zm1 hD a.hit
   have hTr := zfk W F x s bks rows N hD hf a (qOf s a.hit) (hD.as_ a ham.1) p1
   generalize hqe : qOf s a.hit = q at *
   by_cases hdl : q.dealer ≠ who
   ·rw [if_pos hdl]
    unfold zai
    unfold zap
    refine zan Tryz.func64 rfl rfl Tryz.results64 Tryz.ntmps64 rfl rfl ?_
    repeat' (first | apply zae | apply zaa | apply zaj | apply zah | apply zaf | apply zad | apply zab hT; iterate 4 exact rfl | apply zaM [51, 106] [] hmix; decide +kernel | apply zaK; (iterate 5 exact rfl); intro g5 | (apply zaI hT; (iterate 5 exact rfl); first | (fail_if_success (have q := g7)); intro g7 | (fail_if_success (have q := g9)); intro g9) | (apply zaF hT; (iterate 6 exact rfl); (repeat (first | exact sel0 )); (iterate 3 exact rfl); exact nle rfl) | (apply zaZ hT; (iterate 9 exact rfl); (iterate 2 omega)) | (apply zac; (iterate 7 exact rfl); exact ((hG.mono (zbx (by (repeat (first | exact mcs | apply mcm ))) (by (repeat (first | exact mcs | apply mcm ))))))) | (apply zac; (iterate 7 exact rfl); exact ((hQ.mono (zbx (by (repeat (first | exact mcs | apply mcm ))) (by (repeat (first | exact mcs | apply mcm ))))))) | (apply zal; (iterate 5 exact rfl); first | (apply zaC hT; exact rfl; exact rfl; (repeat (first | exact mcs | apply mcm )); exact rfl; exact rfl) ) | (apply zag; iterate 2 exact rfl) | (apply zam; exact rfl; all_goals (intro hb; (try dsimp only at hb); (try simp only [hb]); (first | replace hb := zaD hb | replace hb := zaE hb ); (try omega))))
    all_goals first
     | (exfalso; omega)
     | (apply ret1; exact rfl; exact ⟨zap g who id0 o outs (zai x s bks rows F), by (unfold zap zai; (repeat (first | exact zar | (apply zay; · (repeat (first | exact sel0 | apply selS ))) | apply zat))), za7.bad' (by decide) hf⟩)
     | skip
   ·rw [if_neg hdl]
    have hdl := Decidable.not_not.1 hdl
    by_cases hk15 : m.kind = 15
    ·rw [if_pos hk15]
     have hDr := fun G => zfc W G x.u x.due.A x.due.c s.due 2 a.id hld
     have hdl2 : (zbn s.due 2 a.id).length ≤ 1000000 := Nat.le_trans (zcD _ _ _) hld
     have hLE := fun G A c => zfi W G ({ x with due := ⟨A, c⟩ } : DAd) { s with due := zbn s.due 2 a.id } bks rows g who a.id o outs a hD.upa hD.upq hla hlq hdl2 hbo2
     have hbk : (zbe false { s with due := zbn s.due 2 a.id } a).1.books = s.books := by unfold zbe; dsimp only; split <;> rfl
     have hps : (zbe false { s with due := zbn s.due 2 a.id } a).1.pos = s.pos := by unfold zbe; dsimp only; split <;> rfl
     generalize zbe false { s with due := zbn s.due 2 a.id } a = r at *
     have hf2 : za6 r.1 bks rows := ⟨by rw [hbk]; exact hf.1, by rw [hps]; exact hf.2⟩
     unfold zai
     unfold zap
     refine zan Tryz.func64 rfl rfl Tryz.results64 Tryz.ntmps64 rfl rfl ?_
     repeat' (first | apply zae | apply zaa | apply zaj | apply zah | apply zaf | apply zad | apply zab hT; iterate 4 exact rfl | apply zaM [51, 106] [] hmix; decide +kernel | apply zaK; (iterate 5 exact rfl); intro g5 | (apply zaI hT; (iterate 5 exact rfl); first | (fail_if_success (have q := g7)); intro g7 | (fail_if_success (have q := g9)); intro g9) | (apply zaF hT; (iterate 6 exact rfl); (repeat (first | exact sel0 | apply selS )); (iterate 3 exact rfl); exact nle rfl) | (apply zaZ hT; (iterate 9 exact rfl); (iterate 2 omega)) | (apply zac; (iterate 7 exact rfl); exact ((hG.mono (zbx (by (repeat (first | exact mcs | apply mcm ))) (by (repeat (first | exact mcs | apply mcm ))))))) | (apply zac; (iterate 7 exact rfl); exact ((hQ.mono (zbx (by (repeat (first | exact mcs | apply mcm ))) (by (repeat (first | exact mcs | apply mcm ))))))) | (apply zaz; (iterate 7 exact rfl); exact ((zaB.perm (hDr _) (by (repeat (first | exact List.Perm.refl _ | (apply zaX; · (repeat (first | exact sel0 | apply selS ))) ))))); rintro _ _ ⟨rfl, A3, c3, rfl⟩) | (apply zaz; (iterate 7 exact rfl); exact ((zaB.perm (hLE _ A3 c3) (by (repeat (first | exact List.Perm.refl _ | (apply zaX; · (repeat (first | exact sel0 | apply selS ))) | (apply za0; · (repeat (first | exact zaP | apply zaT )))))))); rintro _ _ ⟨rfl, y, o2, rfl⟩) | (apply zal; (iterate 5 exact rfl); first | (apply zaC hT; exact rfl; exact rfl; (repeat (first | exact mcs | apply mcm )); exact rfl; exact rfl) | (apply zaQ hT; exact rfl; exact rfl; (repeat (first | exact mcs | apply mcm )); exact rfl)) | (apply zag; iterate 2 exact rfl) | (apply zam; exact rfl; all_goals (intro hb; (try dsimp only at hb); (try simp only [hb]); (first | replace hb := odt hb | replace hb := odf hb | replace hb := zaD hb | replace hb := zaE hb ); (try omega))))
     all_goals first
      | (exfalso; omega)
      | (apply ret1; exact rfl; exact ⟨zap g who a.id o2 (outs ++ r.2) (zai (y.at x.d) r.1 bks rows F), by (unfold zap zai; (repeat (first | exact zar | (apply zay; · (repeat (first | exact sel0 ))) | apply zat | apply zdN))), za7.ok' hf2⟩)
      | skip
    ·rw [if_neg hk15]
     by_cases h2 : zcA s a q ≠ 0
     ·rw [if_pos h2]
      generalize zcA s a q = er at *
      unfold zai
      unfold zap
      refine zan Tryz.func64 rfl rfl Tryz.results64 Tryz.ntmps64 rfl rfl ?_
      repeat' (first | apply zae | apply zaa | apply zaj | apply zah | apply zaf | apply zad | apply zab hT; iterate 4 exact rfl | apply zaM [51, 106] [] hmix; decide +kernel | apply zaK; (iterate 5 exact rfl); intro g5 | (apply zaI hT; (iterate 5 exact rfl); first | (fail_if_success (have q := g7)); intro g7 | (fail_if_success (have q := g9)); intro g9) | (apply zaF hT; (iterate 6 exact rfl); (repeat (first | exact sel0 | apply selS )); (iterate 3 exact rfl); exact nle rfl) | (apply zaZ hT; (iterate 9 exact rfl); (iterate 2 omega)) | (apply zac; (iterate 7 exact rfl); exact ((hG.mono (zbx (by (repeat (first | exact mcs | apply mcm ))) (by (repeat (first | exact mcs | apply mcm ))))))) | (apply zac; (iterate 7 exact rfl); exact ((hQ.mono (zbx (by (repeat (first | exact mcs | apply mcm ))) (by (repeat (first | exact mcs | apply mcm ))))))) | (apply zac; (iterate 7 exact rfl); exact ((hTr.mono (by (intro c hc; (repeat (first | exact hc | apply mcm ))))))) | (apply zal; (iterate 5 exact rfl); first | (apply zaC hT; exact rfl; exact rfl; (repeat (first | exact mcs | apply mcm )); exact rfl; exact rfl) | (apply zaQ hT; exact rfl; exact rfl; (repeat (first | exact mcs | apply mcm )); exact rfl)) | (apply zag; iterate 2 exact rfl) | (apply zam; exact rfl; all_goals (intro hb; (try dsimp only at hb); (try simp only [hb]); (first | replace hb := odt hb | replace hb := odf hb | replace hb := zaD hb | replace hb := zaE hb ); (try omega))))
      all_goals first
       | (exfalso; omega)
       | (apply ret1; exact rfl; exact ⟨zap g who a.id o outs (zai x s bks rows F), by (unfold zap zai; (repeat (first | exact zar | (apply zay; · (repeat (first | exact sel0 | apply selS ))) | apply zat))), za7.bad' h2 hf⟩)
       | skip
     ·rw [if_neg h2]
      have h2 := Decidable.not_not.1 h2
      rw [h2] at hTr
      have hUse := fun G => zoc W G x.f x.fparties.A x.fparties.c x.used.A x.used.c s.parties s.used q.dealer q.price a.qty hD.nus hD.us (by unfold inW; omega) (by unfold inW; omega)
      by_cases h3 : zc0 s.parties s.used q.dealer q.price a.qty ≠ 0
      ·rw [if_pos h3]
       simp only [if_neg h3] at hUse
       generalize zc0 s.parties s.used q.dealer q.price a.qty = er at *
       unfold zai
       unfold zap
       refine zan Tryz.func64 rfl rfl Tryz.results64 Tryz.ntmps64 rfl rfl ?_
       repeat' (first | apply zae | apply zaa | apply zaj | apply zah | apply zaf | apply zad | apply zab hT; iterate 4 exact rfl | apply zaM [51, 106] [] hmix; decide +kernel | apply zaK; (iterate 5 exact rfl); intro g5 | (apply zaI hT; (iterate 5 exact rfl); first | (fail_if_success (have q := g7)); intro g7 | (fail_if_success (have q := g9)); intro g9) | (apply zaF hT; (iterate 6 exact rfl); (repeat (first | exact sel0 | apply selS )); (iterate 3 exact rfl); exact nle rfl) | (apply zaZ hT; (iterate 9 exact rfl); (iterate 2 omega)) | (apply zac; (iterate 7 exact rfl); exact ((hG.mono (zbx (by (repeat (first | exact mcs | apply mcm ))) (by (repeat (first | exact mcs | apply mcm ))))))) | (apply zac; (iterate 7 exact rfl); exact ((hQ.mono (zbx (by (repeat (first | exact mcs | apply mcm ))) (by (repeat (first | exact mcs | apply mcm ))))))) | (apply zac; (iterate 7 exact rfl); exact ((hTr.mono (by (intro c hc; (repeat (first | exact hc | apply mcm ))))))) | (apply zaz; (iterate 7 exact rfl); exact ((zaB.perm (hUse _) (by (repeat (first | exact List.Perm.refl _ | (apply zaX; · (repeat (first | exact sel0 | apply selS ))) ))))); rintro _ _ ⟨rfl, rfl⟩) | (apply zal; (iterate 5 exact rfl); first | (apply zaC hT; exact rfl; exact rfl; (repeat (first | exact mcs | apply mcm )); exact rfl; exact rfl) | (apply zaQ hT; exact rfl; exact rfl; (repeat (first | exact mcs | apply mcm )); exact rfl)) | (apply zag; iterate 2 exact rfl) | (apply zam; exact rfl; all_goals (intro hb; (try dsimp only at hb); (try simp only [hb]); (first | replace hb := odt hb | replace hb := odf hb | replace hb := zaD hb | replace hb := zaE hb ); (try omega))))
       all_goals first
        | (exfalso; omega)
        | (apply ret1; exact rfl; exact ⟨zap g who a.id o outs (zai x s bks rows F), by (unfold zap zai; (repeat (first | exact zar | (apply zay; · (repeat (first | exact sel0 | apply selS ))) | apply zat))), za7.bad' h3 hf⟩)
        | skip
      ·rw [if_neg h3]
       have h3 := Decidable.not_not.1 h3
       simp only [h3, if_true] at hUse
       obtain ⟨_, _, _, hu4⟩ := zmv h3
       have hu5 := zmu hD.us q.dealer
       have hprod : 0 ≤ q.price * a.qty := Int.mul_nonneg (by omega) (by omega)
       generalize hue : s.used.set q.dealer.toNat (zdU s.used q.dealer + q.price * a.qty) = us at *
       have hD1 : DOK N (zd9 { s with used := us, asks := endA a.id 3 s.asks } a.id) := by
        rw [← hue]
        exact ((hD.usedSet (i := q.dealer.toNat) (n := zdU s.used q.dealer + q.price * a.qty) ⟨by omega, by omega⟩).asks (zfE hD.upa) (fun y hy => zgE hy)).clear a.id
       have hE := fun G => zmb W G x.a x.asks.A x.asks.c s.asks a.id 3 hla hD.upa
       have hC := fun G => zhG W G x { s with used := us, asks := endA a.id 3 s.asks } bks rows a.id hlq hld
       have hf1 : za6 (zd9 { s with used := us, asks := endA a.id 3 s.asks } a.id) bks rows := hf
       have hnow1 : (zd9 { s with used := us, asks := endA a.id 3 s.asks } a.id).now = s.now := rfl
       generalize zd9 { s with used := us, asks := endA a.id 3 s.asks } a.id = d1 at *
       have hnt : d1.trades.length ≤ 900000 := by have := hD1.nt; omega
       have hnk := hD.ask
       have hTd := fun G (y : DAd) o2 => zgR W G (y.at x.d) d1 bks rows g who a.id o2 (outs ++ [outM a.client 26 [a.id, q.price]]) a.side a.client q.dealer a.bond q.price a.qty a.id _ _ hf1 hD1.psok hD1.head hnt (zi1 hnt (by unfold inW; omega) (by unfold inW; omega) (by unfold inW; omega) (by unfold inW; omega) (by unfold inW; omega) (by unfold inW; omega) (by rw [hnow1]; unfold inW; omega)) (by rw [List.length_append]; show outs.length + 1 ≤ 1000000; omega)
       generalize ht1 : zb1 d1 a.side a.client q.dealer a.bond q.price a.qty a.id = t1 at *
       rw [show outM a.client 26 [a.id, q.price] :: zds t1 = [outM a.client 26 [a.id, q.price]] ++ zds t1 from rfl]
       unfold zai
       unfold zap
       refine zan Tryz.func64 rfl rfl Tryz.results64 Tryz.ntmps64 rfl rfl ?_
       repeat' (first | apply zae | apply zaa | apply zaj | apply zah | apply zaf | apply zad | apply zab hT; iterate 4 exact rfl | apply zaM [51, 106] [] hmix; decide +kernel | apply zaK; (iterate 5 exact rfl); intro g5 | (apply zaI hT; (iterate 5 exact rfl); first | (fail_if_success (have q := g7)); intro g7 | (fail_if_success (have q := g9)); intro g9) | (apply zaF hT; (iterate 6 exact rfl); (repeat (first | exact sel0 | apply selS )); (iterate 3 exact rfl); exact nle rfl) | (apply zaZ hT; (iterate 9 exact rfl); (iterate 2 omega)) | (apply zac; (iterate 7 exact rfl); exact ((hG.mono (zbx (by (repeat (first | exact mcs | apply mcm ))) (by (repeat (first | exact mcs | apply mcm ))))))) | (apply zac; (iterate 7 exact rfl); exact ((hQ.mono (zbx (by (repeat (first | exact mcs | apply mcm ))) (by (repeat (first | exact mcs | apply mcm ))))))) | (apply zac; (iterate 7 exact rfl); exact ((hTr.mono (by (intro c hc; (repeat (first | exact hc | apply mcm ))))))) | (apply zaz; (iterate 7 exact rfl); exact ((zaB.perm (hUse _) (by (repeat (first | exact List.Perm.refl _ | (apply zaX; · (repeat (first | exact sel0 | apply selS ))) ))))); rintro _ _ ⟨rfl, rfl⟩) | (apply zaz; (iterate 7 exact rfl); exact ((zaB.perm (hE _) (by (repeat (first | exact List.Perm.refl _ | (apply zaX; · (repeat (first | exact sel0 | apply selS ))) ))))); rintro _ _ ⟨rfl, rfl⟩) | (apply zaz; (iterate 7 exact rfl); exact ((zaB.perm (hC _) (by (repeat (first | exact List.Perm.refl _ | (apply zaX; · (repeat (first | exact sel0 | apply selS ))) | (apply za0; · (repeat (first | exact zaP | apply zaT )))))))); rintro _ _ ⟨rfl, y, rfl⟩) | (apply zao (cs := [.int .i64 a.id, .int .i64 q.price]) hT; (iterate 12 exact rfl); intro g106) | (apply zaz; (iterate 7 exact rfl); exact ((zbZ W _ g who a.id o outs _ (some ⟨g106, 0, none⟩) 2 a.client 26 [a.id, q.price] (by (repeat (first | exact List.Perm.refl _ | (apply zaX; · (repeat (first | exact sel0 | apply selS | apply zbO))) ))) (by (repeat (first | exact mcs | apply mcm ))) (Nat.le_of_ble_eq_true rfl) hbo2)); rintro _ _ ⟨rfl, o2, rfl⟩) | (apply zaO hT (cs := zbc.enc ⟨0, a.bond, 0, 0, q.price, a.qty, a.id, 0⟩); iterate 4 exact rfl) | (apply zaz; (iterate 7 exact rfl); exact ((zaB.perm (hTd _ y o2) (by (repeat (first | exact List.Perm.refl _ | (apply zaX; · (repeat (first | exact sel0 | apply selS ))) | (apply za0; · (repeat (first | exact zaP | apply zaT )))))))); rintro _ _ ⟨rfl, y2, o3, rows3, rfl, hf3⟩) | (apply zal; (iterate 5 exact rfl); first | (apply zaC hT; exact rfl; exact rfl; (repeat (first | exact mcs | apply mcm | apply mar)); exact rfl; exact rfl) | (apply zaQ hT; exact rfl; exact rfl; (repeat (first | exact mcs | apply mcm )); exact rfl)) | (apply zag; iterate 2 exact rfl) | (apply zam; exact rfl; all_goals (intro hb; (try dsimp only at hb); (try simp only [hb]); (first | replace hb := odt hb | replace hb := odf hb | replace hb := zaD hb | replace hb := zaE hb ); (try omega))))
       all_goals first
        | (exfalso; omega)
        | (apply ret1; exact rfl; exact ⟨zap g who a.id o3 (outs ++ ([outM a.client 26 [a.id, q.price]] ++ zds t1)) (zai (y2.at x.d) (zdi d1 t1) bks rows3 F), by (rw [← List.append_assoc]; unfold zap zai; (repeat (first | exact zar | (apply zay; · (repeat (first | exact sel0 ))) | (apply za1; · (repeat (first | exact zaP ))) | apply zat))), za7.ok' hf3⟩)
        | skip
def zef (d : Dk) (dealers id f0 f1 f2 ends : Int) (k : Nat) : List OutR := (List.range k).filterMap fun (i : Nat) => if zhV dealers i then some (outM i 22 [id, f0, f1, f2, ends]) else none
theorem zgS {d : Dk} {dealers id f0 f1 f2 ends : Int} {k : Nat} : zef d dealers id f0 f1 f2 ends (k + 1) = zef d dealers id f0 f1 f2 ends k ++ (if zhV dealers k then [outM k 22 [id, f0, f1, f2, ends]] else []) := by
 unfold zef
 rw [List.range_succ, List.filterMap_append]
 congr 1
 simp only [List.filterMap_cons, List.filterMap_nil]
 split
 ·rename_i h; split at h
  ·cases h
  ·rename_i h2; rw [if_neg h2]
 ·rename_i h; split at h
  ·rename_i h2; cases h; rw [if_pos h2]
  ·cases h
theorem zhI {d : Dk} {dealers id f0 f1 f2 ends : Int} : ∀ k, (zef d dealers id f0 f1 f2 ends k).length ≤ k
 | 0 => by simp [zef]
 | k + 1 => by
   rw [zgS, List.length_append]
   have := zhI (d := d) (dealers := dealers) (id := id) (f0 := f0) (f1 := f1) (f2 := f2) (ends := ends) k
   split <;> simp <;> omega
set_option maxHeartbeats 8000000 in
theorem zi2 (W : World) (F : List zax) (x : DAd) (s : Dk) (bks : List BAd) (rows : List PRow) (N : Nat) (hD : DOK N s) (hN : N ≤ 10000) (hf : za6 s bks rows) (g : Nat) (who id0 : Int) (o : Sp) (outs : List OutR) (m : MsgR) (hk : m.kind = 9) (hmw : MsgW m) (hbo : outs.length ≤ 900000) :
 zaB Tryz.prog W 66 [ptrV x.d, ptrV g, .agg m.enc.toArray] (zap g who id0 o outs (zai x s bks rows F)) (za7 x g who outs F (askD s who m)) := by
 refine zaB.dropTo ?_
 have hla : s.asks.length ≤ 1000000 := by have := hD.na; omega
 have hld : s.due.length ≤ 1000000 := by have := hD.nd; omega
 have hnw := hD.now
 have hnk := hD.ask
 have h8 := hD.few
 have hI := zee W x s m.f0
 have hS := zd7 W m.f1
 have hcv : IntKind.wrap .u64 m.f3 = m.f3 % 18446744073709551616 := rfl
 unfold askD
 dsimp only
 cases hn : zcz s m.f0
 ·rw [hn] at hI
  rw [if_pos rfl]
  refine zan Tryz.func66 rfl rfl Tryz.results66 Tryz.ntmps66 rfl rfl ?_
  unfold zai
  unfold zap
  repeat' (first | apply zae | apply zaa | apply zaj | apply zaf | apply zad | apply zab hT; iterate 4 exact rfl | apply zaM [] [] hmix; decide +kernel | apply zaK; (iterate 5 exact rfl); intro g5 | apply zaZ hT; (iterate 9 exact rfl); (iterate 2 omega) | apply zcQ hT; (iterate 4 exact rfl); rw [hcv] | (apply zac; (iterate 7 exact rfl); exact (hI.mono (zdZ (by (repeat (first | exact mcs | apply mcm )))))) | (apply zal; (iterate 5 exact rfl); first | (apply zaC hT; exact rfl; exact rfl; (repeat (first | exact mcs )); exact rfl; exact rfl) ) | apply zak; iterate 2 exact rfl)
  all_goals first
   | (exfalso; omega)
   | (apply ret1; exact rfl; exact ⟨zap g who id0 o outs (zai x s bks rows F), by (unfold zap zai; (repeat (first | exact zar | (apply zay; · (repeat (first | exact sel0 | apply selS ))) | apply zat))), za7.bad' (by decide) hf⟩)
   | skip
 ·rw [hn] at hI
  rw [if_neg (by decide)]
  cases hs : isB m.f1
  ·rw [hs] at hS
   rw [if_pos rfl]
   refine zan Tryz.func66 rfl rfl Tryz.results66 Tryz.ntmps66 rfl rfl ?_
   unfold zai
   unfold zap
   repeat' (first | apply zae | apply zaa | apply zaj | apply zaf | apply zad | apply zab hT; iterate 4 exact rfl | apply zaM [] [] hmix; decide +kernel | apply zaK; (iterate 5 exact rfl); intro g5 | apply zaZ hT; (iterate 9 exact rfl); (iterate 2 omega) | apply zcQ hT; (iterate 4 exact rfl); rw [hcv] | (apply zac; (iterate 7 exact rfl); exact (hI.mono (zdZ (by (repeat (first | exact mcs | apply mcm )))))) | (apply zac; (iterate 7 exact rfl); exact (hS.mono (by simp))) | (apply zal; (iterate 5 exact rfl); first | (apply zaC hT; exact rfl; exact rfl; (repeat (first | exact mcs )); exact rfl; exact rfl) ) | apply zak; iterate 2 exact rfl | apply zag; iterate 2 exact rfl)
   all_goals first
    | (exfalso; omega)
    | (apply ret1; exact rfl; exact ⟨zap g who id0 o outs (zai x s bks rows F), by (unfold zap zai; (repeat (first | exact zar | (apply zay; · (repeat (first | exact sel0 | apply selS ))) | apply zat))), za7.bad' (by decide) hf⟩)
    | skip
  ·rw [hs] at hS
   rw [if_neg (by decide)]
   obtain ⟨⟨n0, n1⟩, hbn, hbm⟩ := zdm hD.nbk hn
   have hbl := (List.getElem?_eq_some_iff.1 hbn).1
   have hbI := (zcp hD.rules).2.2.2.1 _ hbm
   have hrb : zaJ W (zap g who id0 o outs (zai x s bks rows F)) x.bonds.A s.bonds.length 7 (s.bonds.flatMap za3.enc) := zaJ.enc (c := x.bonds.c) za3.enc_len za3.enc_one (by unfold zap zai; (repeat (first | exact mcs | apply mcm))) rfl
   have hQt := zif W (zbz s m.f0) m.f2 hbI
   have hWn := zfg W m.f4
   have hRc := zk4 W x.f x.fparties.A x.fparties.c (x.used.sl s.parties.length) s.parties who (m.f3 % 18446744073709551616)
   generalize hbb : zbz s m.f0 = b at *
   cases hh : b.halted
   ·have hhal : (za3.enc b)[6]? = some (.bool false) := by rw [← hh]; rfl
    rw [if_neg (by decide)]
    by_cases hq : qtyE b m.f2 ≠ 0
    ·rw [if_pos hq]
     generalize qtyE b m.f2 = er at *
     refine zan Tryz.func66 rfl rfl Tryz.results66 Tryz.ntmps66 rfl rfl ?_
     refine zaU hrb rfl (fun hAi => ?_); have hA := hAi (by omega)
     unfold zai
     unfold zap
     repeat' (first | apply zae | apply zaa | apply zaj | apply zah | apply zaf | apply zad | apply zab hT; iterate 4 exact rfl | apply zaM [] [] hmix; decide +kernel | apply zaK; (iterate 5 exact rfl); intro g5 | apply zaZ hT; (iterate 9 exact rfl); (iterate 2 omega) | apply zcQ hT; (iterate 4 exact rfl); rw [hcv] | (apply zac; (iterate 7 exact rfl); exact (hI.mono (zdZ (by (repeat (first | exact mcs | apply mcm )))))) | (apply zac; (iterate 7 exact rfl); exact (hS.mono (by simp))) | apply zaS hT; (iterate 8 exact rfl); (iterate 2 omega); exact hA | (apply zal; (iterate 5 exact rfl); first | exact zbb hT rfl rfl (hrb.mono (by (intro c hc; (repeat (first | exact hc | apply mcm ))))) za3.enc_len (zaW _ _ _) hbn (by decide) hhal | exact zaY hT rfl rfl (hrb.mono (by (intro c hc; (repeat (first | exact hc | apply mcm ))))) za3.enc_len rfl hbn rfl) | (apply zac; (iterate 7 exact rfl); exact (hQt.mono (by simp))) | (apply zal; (iterate 5 exact rfl); first | (apply zaC hT; exact rfl; exact rfl; (repeat (first | exact mcs | apply mcm )); exact rfl; exact rfl) ) | apply zag; iterate 2 exact rfl | (apply zam; exact rfl; all_goals (intro hb; (try dsimp only at hb); (try simp only [hb]); (first | replace hb := zaD hb | replace hb := zaE hb ); (try omega))))
     all_goals first
      | (exfalso; omega)
      | (apply ret1; exact rfl; exact ⟨zap g who id0 o outs (zai x s bks rows F), by (unfold zap zai; (repeat (first | exact zar | (apply zay; · (repeat (first | exact sel0 | apply selS ))) | apply zat))), za7.bad' hq hf⟩)
      | skip
    ·rw [if_neg hq]
     have hq := Decidable.not_not.1 hq
     rw [hq] at hQt
     by_cases hr : zgi s.parties who (m.f3 % 18446744073709551616) ≠ 0
     ·rw [if_pos hr]
      generalize zgi s.parties who (m.f3 % 18446744073709551616) = er at *
      refine zan Tryz.func66 rfl rfl Tryz.results66 Tryz.ntmps66 rfl rfl ?_
      refine zaU hrb rfl (fun hAi => ?_); have hA := hAi (by omega)
      unfold zai
      unfold zap
      repeat' (first | apply zae | apply zaa | apply zaj | apply zah | apply zaf | apply zad | apply zab hT; iterate 4 exact rfl | apply zaM [] [] hmix; decide +kernel | apply zaK; (iterate 5 exact rfl); intro g5 | apply zaZ hT; (iterate 9 exact rfl); (iterate 2 omega) | apply zcQ hT; (iterate 4 exact rfl); rw [hcv] | (apply zac; (iterate 7 exact rfl); exact (hI.mono (zdZ (by (repeat (first | exact mcs | apply mcm )))))) | (apply zac; (iterate 7 exact rfl); exact (hS.mono (by simp))) | apply zaS hT; (iterate 8 exact rfl); (iterate 2 omega); exact hA | (apply zal; (iterate 5 exact rfl); first | exact zbb hT rfl rfl (hrb.mono (by (intro c hc; (repeat (first | exact hc | apply mcm ))))) za3.enc_len (zaW _ _ _) hbn (by decide) hhal | exact zaY hT rfl rfl (hrb.mono (by (intro c hc; (repeat (first | exact hc | apply mcm ))))) za3.enc_len rfl hbn rfl) | (apply zac; (iterate 7 exact rfl); exact (hQt.mono (by simp))) | (apply zac; (iterate 7 exact rfl); exact (hRc.mono (zbx (by (repeat (first | exact mcs | apply mcm ))) (by (repeat (first | exact mcs | apply mcm )))))) | (apply zal; (iterate 5 exact rfl); first | (apply zaC hT; exact rfl; exact rfl; (repeat (first | exact mcs | apply mcm )); exact rfl; exact rfl) ) | apply zag; iterate 2 exact rfl | (apply zam; exact rfl; all_goals (intro hb; (try dsimp only at hb); (try simp only [hb]); (first | replace hb := zaD hb | replace hb := zaE hb ); (try omega))))
      all_goals first
       | (exfalso; omega)
       | (apply ret1; exact rfl; exact ⟨zap g who id0 o outs (zai x s bks rows F), by (unfold zap zai; (repeat (first | exact zar | (apply zay; · (repeat (first | exact sel0 | apply selS ))) | apply zat))), za7.bad' hr hf⟩)
       | skip
     ·rw [if_neg hr]
      have hr := Decidable.not_not.1 hr
      rw [hr] at hRc
      cases hw : zeM m.f4
      ·rw [hw] at hWn
       rw [if_pos rfl]
       refine zan Tryz.func66 rfl rfl Tryz.results66 Tryz.ntmps66 rfl rfl ?_
       refine zaU hrb rfl (fun hAi => ?_); have hA := hAi (by omega)
       unfold zai
       unfold zap
       repeat' (first | apply zae | apply zaa | apply zaj | apply zah | apply zaf | apply zad | apply zab hT; iterate 4 exact rfl | apply zaM [] [] hmix; decide +kernel | apply zaK; (iterate 5 exact rfl); intro g5 | apply zaZ hT; (iterate 9 exact rfl); (iterate 2 omega) | apply zcQ hT; (iterate 4 exact rfl); rw [hcv] | (apply zac; (iterate 7 exact rfl); exact (hI.mono (zdZ (by (repeat (first | exact mcs | apply mcm )))))) | (apply zac; (iterate 7 exact rfl); exact (hS.mono (by simp))) | apply zaS hT; (iterate 8 exact rfl); (iterate 2 omega); exact hA | (apply zal; (iterate 5 exact rfl); first | exact zbb hT rfl rfl (hrb.mono (by (intro c hc; (repeat (first | exact hc | apply mcm ))))) za3.enc_len (zaW _ _ _) hbn (by decide) hhal | exact zaY hT rfl rfl (hrb.mono (by (intro c hc; (repeat (first | exact hc | apply mcm ))))) za3.enc_len rfl hbn rfl) | (apply zac; (iterate 7 exact rfl); exact (hQt.mono (by simp))) | (apply zac; (iterate 7 exact rfl); exact (hRc.mono (zbx (by (repeat (first | exact mcs | apply mcm ))) (by (repeat (first | exact mcs | apply mcm )))))) | (apply zac; (iterate 7 exact rfl); exact (hWn.mono (by simp))) | (apply zal; (iterate 5 exact rfl); first | (apply zaC hT; exact rfl; exact rfl; (repeat (first | exact mcs | apply mcm )); exact rfl; exact rfl) ) | apply zak; iterate 2 exact rfl | apply zag; iterate 2 exact rfl)
       all_goals first
        | (exfalso; omega)
        | (apply ret1; exact rfl; exact ⟨zap g who id0 o outs (zai x s bks rows F), by (unfold zap zai; (repeat (first | exact zar | (apply zay; · (repeat (first | exact sel0 | apply selS ))) | apply zat))), za7.bad' (by decide) hf⟩)
        | skip
      ·rw [hw] at hWn
       rw [if_neg (by decide)]
       have hwin : 1 ≤ m.f4 ∧ m.f4 ≤ 1000 := zck hw
       have hAk := fun G => zo3 W G x.a x.asks.A x.asks.c s.asks ⟨s.ask + 1, who, m.f0, m.f1, m.f2, m.f3 % 18446744073709551616, s.now + m.f4, 0, 1, 0⟩ hla hD.upa
       have hDu := fun G => zjy W G x.u x.due.A x.due.c s.due ⟨s.now + m.f4, 1, s.ask + 1⟩ hld hD.row.mono
       have hdm : 0 ≤ m.f3 % 18446744073709551616 ∧ m.f3 % 18446744073709551616 ≤ 18446744073709551615 := by omega
       generalize hdl : m.f3 % 18446744073709551616 = dl at *
       by_cases he : addE ⟨s.ask + 1, who, m.f0, m.f1, m.f2, dl, s.now + m.f4, 0, 1, 0⟩ s.asks ≠ 0
       ·rw [if_pos he]
        have hsame : addA ⟨s.ask + 1, who, m.f0, m.f1, m.f2, dl, s.now + m.f4, 0, 1, 0⟩ s.asks = s.asks := by unfold addA; rw [if_neg he]
        rw [hsame] at hAk
        generalize addE ⟨s.ask + 1, who, m.f0, m.f1, m.f2, dl, s.now + m.f4, 0, 1, 0⟩ s.asks = er at *
        subst hdl
        refine zan Tryz.func66 rfl rfl Tryz.results66 Tryz.ntmps66 rfl rfl ?_
        refine zaU hrb rfl (fun hAi => ?_); have hA := hAi (by omega)
        unfold zai
        unfold zap
        repeat' (first | apply zae | apply zaa | apply zaj | apply zah | apply zaf | apply zad | apply zab hT; iterate 4 exact rfl | (apply zaN hT; (iterate 4 exact rfl); (iterate 2 (first | omega ))) | apply zaM [] [] hmix; decide +kernel | apply zaK; (iterate 5 exact rfl); intro g5 | (apply zaI hT; (iterate 5 exact rfl); first | (fail_if_success (have q := g14)); intro g14) | (apply zaF hT; (iterate 6 exact rfl); (repeat (first | exact sel0 )); (iterate 3 exact rfl); exact nle rfl) | (apply zaZ hT; (iterate 9 exact rfl); (iterate 2 omega)) | (apply zcQ hT; (iterate 4 exact rfl); rw [hcv]) | (apply zac; (iterate 7 exact rfl); exact (hI.mono (zdZ (by (repeat (first | exact mcs | apply mcm )))))) | (apply zac; (iterate 7 exact rfl); exact (hS.mono (by simp))) | (apply zaS hT; (iterate 8 exact rfl); (iterate 2 omega); exact hA) | (apply zal; (iterate 5 exact rfl); first | exact zbb hT rfl rfl (hrb.mono (by (intro c hc; (repeat (first | exact hc | apply mcm ))))) za3.enc_len (zaW _ _ _) hbn (by decide) hhal | exact zaY hT rfl rfl (hrb.mono (by (intro c hc; (repeat (first | exact hc | apply mcm ))))) za3.enc_len rfl hbn rfl) | (apply zac; (iterate 7 exact rfl); exact (hQt.mono (by simp))) | (apply zac; (iterate 7 exact rfl); exact (hRc.mono (zbx (by (repeat (first | exact mcs | apply mcm ))) (by (repeat (first | exact mcs | apply mcm )))))) | (apply zac; (iterate 7 exact rfl); exact (hWn.mono (by simp))) | (apply zaO hT (cs := AskR.enc ⟨s.ask + 1, who, m.f0, m.f1, m.f2, m.f3 % 18446744073709551616, s.now + m.f4, 0, 1, 0⟩); iterate 4 exact rfl) | (apply zaz; (iterate 7 exact rfl); exact (zaB.perm (hAk _) (by (repeat (first | exact List.Perm.refl _ | (apply zaX; · (repeat (first | exact sel0 | apply selS ))) )))); rintro _ _ ⟨rfl, A3, c3, rfl⟩) | (apply zal; (iterate 5 exact rfl); first | (apply zaC hT; exact rfl; exact rfl; (repeat (first | exact mcs | apply mcm )); exact rfl; exact rfl) | (apply zaQ hT; exact rfl; exact rfl; (repeat (first | exact mcs )); exact rfl)) | (apply zag; iterate 2 exact rfl) | (apply zam; exact rfl; all_goals (intro hb; (try dsimp only at hb); (try simp only [hb]); (first | replace hb := zaD hb | replace hb := zaE hb ); (try omega))))
        all_goals first
         | (exfalso; omega)
         | (apply ret1; exact rfl; exact ⟨zap g who id0 o outs (zai ({ x with asks := ⟨A3, c3⟩ } : DAd) s bks rows F), by (unfold zap zai; (repeat (first | exact zar | (apply zay; · (repeat (first | exact sel0 | apply selS ))) | apply zat))), ⟨rfl, { x with asks := ⟨A3, c3⟩ }, o, bks, rows, id0, outs, rfl, hf, fun h => absurd h (by simpa [bad] using he)⟩⟩)
         | skip
       ·rw [if_neg he]
        have he := Decidable.not_not.1 he
        rw [he] at hAk
        generalize has : addA ⟨s.ask + 1, who, m.f0, m.f1, m.f2, dl, s.now + m.f4, 0, 1, 0⟩ s.asks = as' at *
        generalize hds : addD s.due ⟨s.now + m.f4, 1, s.ask + 1⟩ = ds at *
        subst hdl
        refine zan Tryz.func66 rfl rfl Tryz.results66 Tryz.ntmps66 rfl rfl ?_
        refine zaU hrb rfl (fun hAi => ?_); have hA := hAi (by omega)
        unfold zai
        unfold zap
        repeat' (first | apply zae | apply zaa | apply zah | apply zaf | apply zad | apply zab hT; iterate 4 exact rfl | (apply zaN hT; (iterate 4 exact rfl); (iterate 2 (first | omega ))) | apply zaM [] [] hmix; decide +kernel | apply zaK; (iterate 5 exact rfl); intro g5 | (apply zaI hT; (iterate 5 exact rfl); first | (fail_if_success (have q := g14)); intro g14) | (apply zaF hT; (iterate 6 exact rfl); (repeat (first | exact sel0 | apply selS )); (iterate 3 exact rfl); exact nle rfl) | (apply zaZ hT; (iterate 9 exact rfl); (iterate 2 omega)) | (apply zcQ hT; (iterate 4 exact rfl); rw [hcv]) | (apply zac; (iterate 7 exact rfl); exact (hI.mono (zdZ (by (repeat (first | exact mcs | apply mcm )))))) | (apply zac; (iterate 7 exact rfl); exact (hS.mono (by simp))) | (apply zaS hT; (iterate 8 exact rfl); (iterate 2 omega); exact hA) | (apply zal; (iterate 5 exact rfl); first | exact zbb hT rfl rfl (hrb.mono (by (intro c hc; (repeat (first | exact hc | apply mcm ))))) za3.enc_len (zaW _ _ _) hbn (by decide) hhal | exact zaY hT rfl rfl (hrb.mono (by (intro c hc; (repeat (first | exact hc | apply mcm | apply mar))))) za3.enc_len rfl hbn rfl) | (apply zac; (iterate 7 exact rfl); exact (hQt.mono (by simp))) | (apply zac; (iterate 7 exact rfl); exact (hRc.mono (zbx (by (repeat (first | exact mcs | apply mcm ))) (by (repeat (first | exact mcs | apply mcm )))))) | (apply zac; (iterate 7 exact rfl); exact (hWn.mono (by simp))) | (apply zaO hT (cs := AskR.enc ⟨s.ask + 1, who, m.f0, m.f1, m.f2, m.f3 % 18446744073709551616, s.now + m.f4, 0, 1, 0⟩); iterate 4 exact rfl) | (apply zaO hT (cs := Due.enc ⟨s.now + m.f4, 1, s.ask + 1⟩); iterate 4 exact rfl) | (apply zaz; (iterate 7 exact rfl); exact (zaB.perm (hAk _) (by (repeat (first | exact List.Perm.refl _ | (apply zaX; · (repeat (first | exact sel0 | apply selS ))) )))); rintro _ _ ⟨rfl, A3, c3, rfl⟩) | (apply zaz; (iterate 7 exact rfl); exact (zaB.perm (hDu _) (by (repeat (first | exact List.Perm.refl _ | (apply zaX; · (repeat (first | exact sel0 | apply selS ))) )))); rintro _ _ ⟨rfl, A4, c4, rfl⟩) | (apply zal; (iterate 5 exact rfl); first | (apply zaC hT; exact rfl; exact rfl; (repeat (first | exact mcs | apply mcm )); exact rfl; exact rfl) | (apply zaQ hT; exact rfl; exact rfl; (repeat (first | exact mcs )); exact rfl)) | (apply zag; iterate 2 exact rfl))
        all_goals try omega
        all_goals
         generalize hdl : m.f3 % 18446744073709551616 = dl at *
         show AW _ _ _ _ _ _ _
         refine zbj (α := Nat × Sp) (E := fun z => [(1, ptrV g), (7, .int .i64 m.f0), (8, .int .i64 m.f1), (9, .int .i64 m.f2), (10, .int .u64 dl), (14, .pointer (some ⟨g14, 0, none⟩)), (139, .int .i64 s.parties.length), (140, .int .i64 z.1)])
          (H := fun z => .blk g14 68 (AskR.enc ⟨s.ask + 1, who, m.f0, m.f1, m.f2, dl, s.now + m.f4, 0, 1, 0⟩) :: zap g who (s.ask + 1) z.2 (outs ++ zef s dl (s.ask + 1) m.f0 m.f1 m.f2 (s.now + m.f4) z.1) (zai ({ x with asks := ⟨A3, c3⟩, due := ⟨A4, c4⟩ } : DAd) { s with asks := as', ask := s.ask + 1, due := ds } bks rows F)) (μ := fun z => s.parties.length - z.1)
          (S := fun z => z.1 ≤ s.parties.length) (0, o) (Nat.zero_le _) ⟨rfl, rfl, rfl, rfl, rfl, rfl, rfl, rfl, trivial⟩ ?_ ?_
         ·dsimp only
          rw [show outs ++ zef s dl (s.ask + 1) m.f0 m.f1 m.f2 (s.now + m.f4) 0 = outs from List.append_nil _]
          unfold zap zai
          (repeat (first | exact zar | (apply zay; · (repeat (first | exact sel0 | apply selS ))) | apply zat))
         ·rintro ⟨k, o2⟩ hkk
          dsimp only at hkk ⊢
          have hlen := zhI (d := s) (dealers := dl) (id := s.ask + 1) (f0 := m.f0) (f1 := m.f1) (f2 := m.f2) (ends := s.now + m.f4) k
          have hbok : (outs ++ zef s dl (s.ask + 1) m.f0 m.f1 m.f2 (s.now + m.f4) k).length ≤ 1000000 := by rw [List.length_append]; omega
          have hstep := zgS (d := s) (dealers := dl) (id := s.ask + 1) (f0 := m.f0) (f1 := m.f1) (f2 := m.f2) (ends := s.now + m.f4) (k := k)
          by_cases hlt : k < s.parties.length
          ·have hd1 : decide ((k : Int) < (s.parties.length : Int)) = true := by simp; omega
           have hbit0 := zko (x := dl) (i := (k : Int)) hdm.1 hdm.2 (by omega)
           cases hb64 : zhV dl k
           ·rw [hb64, if_neg (by decide), List.append_nil] at hstep
            rw [hb64] at hbit0
            have hbit : bitI .and .u64 (Int.fdiv dl (2 ^ (min (k : Int).toNat (IntKind.bits .u64)))) 1 = 0 := hbit0
            unfold zap zai
            repeat' (first | apply zae | apply zaa | apply zah | apply zaf | apply zad | apply zab hT; iterate 4 exact rfl | (apply zaN hT; (iterate 4 exact rfl); (iterate 2 (first | omega ))) | apply zdL; (iterate 5 exact rfl); omega | apply zcJ; (iterate 6 exact rfl); rw [hbit] | apply zag; iterate 2 exact rfl | (apply zam; exact rfl; all_goals (intro hb; (try dsimp only at hb); (try simp only [hb]); (first | replace hb := odt hb | replace hb := odf hb ); (try omega))))
            all_goals first
             | (exfalso; omega)
             | exact zaR (k + 1, o2) (by (try dsimp only); omega) (by (try dsimp only); omega) ⟨rfl, rfl, rfl, rfl, rfl, rfl, rfl, rfl, trivial⟩ (by dsimp only; rw [hstep]; (repeat (first | exact zar)))
             | skip
           ·rw [hb64, if_pos rfl] at hstep
            rw [hb64] at hbit0
            have hbit : bitI .and .u64 (Int.fdiv dl (2 ^ (min (k : Int).toNat (IntKind.bits .u64)))) 1 = 1 := hbit0
            generalize zef s dl (s.ask + 1) m.f0 m.f1 m.f2 (s.now + m.f4) k = l1 at *
            generalize hl2 : zef s dl (s.ask + 1) m.f0 m.f1 m.f2 (s.now + m.f4) (k + 1) = l2 at *
            have hst2 : outs ++ l2 = outs ++ l1 ++ [outM k 22 [s.ask + 1, m.f0, m.f1, m.f2, s.now + m.f4]] := by rw [hstep, List.append_assoc]
            unfold zap zai
            repeat' (first | apply zae | apply zaa | apply zah | apply zaf | apply zad | apply zab hT; iterate 4 exact rfl | (apply zaN hT; (iterate 4 exact rfl); (iterate 2 (first | omega ))) | apply zdL; (iterate 5 exact rfl); omega | apply zcJ; (iterate 6 exact rfl); rw [hbit] | apply zao (cs := [.int .i64 (s.ask + 1), .int .i64 m.f0, .int .i64 m.f1, .int .i64 m.f2, .int .i64 (s.now + m.f4)]) hT; (iterate 12 exact rfl); intro g157 | (apply zaz; (iterate 7 exact rfl); exact (zbZ W _ g who (s.ask + 1) o2 (outs ++ l1) _ (some ⟨g157, 0, none⟩) 5 k 22 [s.ask + 1, m.f0, m.f1, m.f2, s.now + m.f4] (by (repeat (first | exact List.Perm.refl _ | (apply zaX; · (repeat (first | exact sel0 | apply selS ))) ))) (by (repeat (first | exact mcs ))) (Nat.le_of_ble_eq_true rfl) hbok); rintro _ _ ⟨rfl, o3, rfl⟩) | (apply zal; (iterate 5 exact rfl); first | (apply zaC hT; exact rfl; exact rfl; (repeat (first | exact mcs )); exact rfl; exact rfl) ) | apply zak; iterate 2 exact rfl | (apply zam; exact rfl; all_goals (intro hb; (try dsimp only at hb); (try simp only [hb]); (first | replace hb := odt hb | replace hb := odf hb ); (try omega))))
            all_goals first
             | (exfalso; omega)
             | exact zaR (k + 1, o3) (by (try dsimp only); omega) (by (try dsimp only); omega) ⟨rfl, rfl, rfl, rfl, rfl, rfl, rfl, rfl, trivial⟩ (by dsimp only; rw [hl2, hst2]; (repeat (first | exact zar | (apply zay; · (repeat (first | exact sel0 | apply selS ))) | apply zat)))
             | skip
          ·obtain rfl : k = s.parties.length := by omega
           have hd1 : decide ((s.parties.length : Int) < (s.parties.length : Int)) = false := by simp
           generalize hl1 : zef s dl (s.ask + 1) m.f0 m.f1 m.f2 (s.now + m.f4) s.parties.length = l1 at *
           unfold zap zai
           repeat' (first | apply zae | apply zaa | apply zaj | apply zas | apply zad | apply zab hT; iterate 4 exact rfl | (apply zam; exact rfl; all_goals (intro hb; (try dsimp only at hb); (try simp only [hb]); (first | replace hb := odt hb | replace hb := odf hb ); (try omega))))
           all_goals first
            | (exfalso; omega)
            | (apply ret1; exact rfl; exact ⟨zap g who (s.ask + 1) o2 (outs ++ l1) (zai (({ x with asks := ⟨A3, c3⟩, due := ⟨A4, c4⟩ } : DAd).at x.d) { s with asks := as', ask := s.ask + 1, due := ds } bks rows F), by (unfold zap zai; (repeat (first | exact zar | (apply zay; · (repeat (first | exact sel0 | apply selS ))) | apply zat))), by (rw [← hl1]; exact za7.ok' hf)⟩)
            | skip
   ·have hhal : (za3.enc b)[6]? = some (.bool true) := by rw [← hh]; rfl
    rw [if_pos rfl]
    refine zan Tryz.func66 rfl rfl Tryz.results66 Tryz.ntmps66 rfl rfl ?_
    refine zaU hrb rfl (fun hAi => ?_); have hA := hAi (by omega)
    unfold zai
    unfold zap
    repeat' (first | apply zae | apply zaa | apply zaj | apply zaf | apply zad | apply zab hT; iterate 4 exact rfl | apply zaM [] [] hmix; decide +kernel | apply zaK; (iterate 5 exact rfl); intro g5 | apply zaZ hT; (iterate 9 exact rfl); (iterate 2 omega) | apply zcQ hT; (iterate 4 exact rfl); rw [hcv] | (apply zac; (iterate 7 exact rfl); exact (hI.mono (zdZ (by (repeat (first | exact mcs | apply mcm )))))) | (apply zac; (iterate 7 exact rfl); exact (hS.mono (by simp))) | apply zaS hT; (iterate 8 exact rfl); (iterate 2 omega); exact hA | (apply zal; (iterate 5 exact rfl); first | exact zbb hT rfl rfl (hrb.mono (by (intro c hc; (repeat (first | exact hc | apply mcm ))))) za3.enc_len (zaW _ _ _) hbn (by decide) hhal ) | (apply zal; (iterate 5 exact rfl); first | (apply zaC hT; exact rfl; exact rfl; (repeat (first | exact mcs | apply mcm )); exact rfl; exact rfl) ) | apply zak; iterate 2 exact rfl | apply zag; iterate 2 exact rfl)
    all_goals first
     | (exfalso; omega)
     | (apply ret1; exact rfl; exact ⟨zap g who id0 o outs (zai x s bks rows F), by (unfold zap zai; (repeat (first | exact zar | (apply zay; · (repeat (first | exact sel0 | apply selS ))) | apply zat))), za7.bad' (by decide) hf⟩)
     | skip
end Go.Proofs.YtakilgkpfjhfdaaGreat
namespace Go.Proofs.YtakilgkpfjhfdaaGreat
open Go Go.Sl
/-! ### rows of what is due -/
theorem zcN {l : List Due} {kind id : Int} {x : Due} (hx : x ∈ l) (hn : ¬ (x.kind = kind ∧ x.id = id)) : x ∈ zbn l kind id := by
 unfold zbn
 split
 ·exact hx
 ·rename_i hi
  obtain ⟨j, hj⟩ := List.getElem?_of_mem hx
  obtain ⟨i, hie⟩ := Int.eq_ofNat_of_zero_le (show 0 ≤ za4 (hasD kind id) l by omega)
  obtain ⟨y, hy, hp⟩ := zgC hie
  rw [hie, Int.toNat_natCast, List.mem_eraseIdx_iff_getElem?]
  refine ⟨j, ?_, hj⟩
  rintro rfl
  rw [hj] at hy
  cases hy
  exact hn (zfY.1 hp)
theorem zet {l : List Due} {kind id : Int} {x : Due} (hx : x ∈ zbn l kind id) : x ∈ l := zcn.subset hx
theorem zeS : ∀ (qs : List zaG) {l : List Due} {x : Due}, x ∈ l → x.kind ≠ 3 → x ∈ qs.foldl (fun l q => zbn l 3 q.id) l
 | [], _, _, h, _ => h
 | q :: qs, l, x, h, hn => zeS qs (zcN h (fun e => hn e.1)) hn
theorem zgT : ∀ (qs : List zaG) {l : List Due} {x : Due}, x ∈ qs.foldl (fun l q => zbn l 3 q.id) l → x ∈ l
 | [], _, _, h => h
 | q :: qs, l, x, h => zet (zgT qs h)
theorem zkr {l : List Due} {d : Due} (hn : ∀ x ∈ l, ¬ keyD x d) : d ∈ addD l d := by
 obtain ⟨x, hx, hk⟩ := znU (l := l) (d := d)
 rcases zdE hx with rfl | hx'
 ·exact hx
 ·exact absurd hk (hn x hx')
theorem zla {l : List Due} (hr : RowD l) {tick : Int} : ∀ {x : Due}, x ∈ l.drop (zb9 l tick) → tick < x.tick := by
 have hup := hr.up
 clear hr
 induction l with
 | nil => intro x hx; simp at hx
 | cons y l ih =>
   rw [List.pairwise_cons] at hup
   intro x hx
   unfold zb9 at hx
   rw [List.takeWhile_cons] at hx
   split at hx
   ·exact ih hup.2 (by unfold zb9; simpa using hx)
   ·rename_i hy
    simp only [decide_eq_true_eq] at hy
    rcases List.mem_cons.1 (by simpa using hx) with rfl | hx
    ·omega
    ·have := hup.1 x hx
     unfold ltD at this
     omega
/-! ### requests -/
theorem zgU {l : List AskR} (hup : upA l) {x y : AskR} (hx : x ∈ l) (hy : y ∈ l) (he : x.id = y.id) : x = y := by
 obtain ⟨i, hi⟩ := List.getElem?_of_mem hx
 obtain ⟨j, hj⟩ := List.getElem?_of_mem hy
 obtain ⟨hil, hie⟩ := List.getElem?_eq_some_iff.1 hi
 obtain ⟨hjl, hje⟩ := List.getElem?_eq_some_iff.1 hj
 rcases Nat.lt_trichotomy i j with h | h | h
 ·have := List.pairwise_iff_getElem.1 hup i j hil hjl h
  rw [hie, hje] at this; omega
 ·subst h; rw [hi] at hj; cases hj; rfl
 ·have := List.pairwise_iff_getElem.1 hup j i hjl hil h
  rw [hie, hje] at this; omega
theorem zpg {l : List AskR} (hup : upA l) {x : AskR} (hx : x ∈ l) : getA x.id l = some x := by
 have hB : bsB (cA x.id) l = true := by
  unfold bsB
  have hm : ∀ (l : List AskR), upA l → x ∈ l → ∃ y, l[bsN (cA x.id) l]? = some y ∧ cA x.id y = 0 := by
   intro l
   induction l with
   | nil => intro _ h; cases h
   | cons z l ih =>
     intro hu hm
     have hu' := hu
     unfold upA at hu'
     rw [List.pairwise_cons] at hu'
     rcases List.mem_cons.1 hm with rfl | hm
     ·refine ⟨x, ?_, by simp [cA, cmpI]⟩
      have : bsN (cA x.id) (x :: l) = 0 := by unfold bsN; simp [cA, cmpI]
      rw [this]; rfl
     ·obtain ⟨y, hy, hc⟩ := ih hu'.2 hm
      have hz : z.id < x.id := hu'.1 x hm
      have hz2 : cA x.id z < 0 := by
       unfold cA cmpI
       split <;> omega
      have : bsN (cA x.id) (z :: l) = bsN (cA x.id) l + 1 := by
       unfold bsN
       rw [List.takeWhile_cons, if_pos (by simpa using hz2)]; rfl
      exact ⟨y, by rw [this]; simpa using hy, hc⟩
  obtain ⟨y, hy, hc⟩ := hm l hup hx
  rw [hy]; simp [hc]
 obtain ⟨y, hy, hi, hg⟩ := zdz hB
 rw [hg, zgU hup (List.mem_of_getElem? hy) hx hi]
theorem zf0 {id : Int} {l : List AskR} {x z y : AskR} (hup : upA l) (hx : getA id l = some x) (h : y ∈ setA id z l) : y = z ∨ (y ∈ l ∧ y.id ≠ id) := by
 unfold setA at h
 obtain ⟨j, hj⟩ := List.getElem?_of_mem h
 have hi := gotX hx
 have hxm := zbH hx
 rw [List.getElem?_set] at hj
 split at hj
 ·split at hj
  ·cases hj; exact .inl rfl
  ·cases hj
 ·rename_i hne
  refine .inr ⟨List.mem_of_getElem? hj, fun he => ?_⟩
  obtain ⟨hil, hie⟩ := List.getElem?_eq_some_iff.1 hi
  obtain ⟨hjl, hje⟩ := List.getElem?_eq_some_iff.1 hj
  rcases Nat.lt_trichotomy (bsN (cA id) l) j with h | h | h
  ·have := List.pairwise_iff_getElem.1 hup _ j hil hjl h
   rw [hie, hje] at this; omega
  ·exact hne h
  ·have := List.pairwise_iff_getElem.1 hup j _ hjl hil h
   rw [hie, hje] at this; omega
theorem zoh {id : Int} {l : List AskR} {x z : AskR} (hx : getA id l = some x) : z ∈ setA id z l := by
 have hi := gotX hx
 unfold setA
 exact List.mem_iff_getElem?.2 ⟨bsN (cA id) l, by rw [List.getElem?_set, if_pos rfl, if_pos (List.getElem?_eq_some_iff.1 hi).1]⟩
theorem zm2 {id : Int} {l : List AskR} {x z y : AskR} (hx : getA id l = some x) (hy : y ∈ l) (hn : y.id ≠ id) : y ∈ setA id z l := by
 have hi := gotX hx
 have hxm := zbH hx
 obtain ⟨j, hj⟩ := List.getElem?_of_mem hy
 unfold setA
 refine List.mem_iff_getElem?.2 ⟨j, ?_⟩
 rw [List.getElem?_set, if_neg, hj]
 rintro rfl
 rw [hi] at hj
 cases hj
 exact hn hxm.2
/-! ### what stays so; 'xs' is yet to be looked at in a tick -/
structure EndI (s : Dk) (xs : List Due) : Prop where
 up : ∀ x ∈ s.due, s.now < x.tick
 px : ∀ x ∈ xs, x.tick ≤ s.now
 ky : (xs ++ s.due).Pairwise fun a b => ¬ keyD a b
 d1 : ∀ x ∈ xs ++ s.due, x.kind = 1 → x.id ≤ s.ask
 d2 : ∀ x ∈ xs ++ s.due, x.kind = 2 → ∃ a ∈ s.asks, a.id = x.id ∧ a.state = 2
 st : ∀ a ∈ s.asks, a.state = 1 ∨ a.state = 2 ∨ a.state = 3 ∨ a.state = 4
 op : ∀ a ∈ s.asks, a.state = 1 → (⟨a.ends, 1, a.id⟩ : Due) ∈ xs ++ s.due
 lk : ∀ a ∈ s.asks, a.state = 2 → a.until_ < a.ends + s.look ∧ (⟨a.until_, 2, a.id⟩ : Due) ∈ xs ++ s.due ∧ (s.now < a.ends → (⟨a.ends, 1, a.id⟩ : Due) ∈ xs ++ s.due)
theorem EndI.same {s t : Dk} {xs : List Due} (h : EndI s xs) (h1 : t.asks = s.asks) (h2 : t.due = s.due) (h3 : t.now = s.now) (h4 : t.look = s.look) (h5 : t.ask = s.ask) : EndI t xs := by
 obtain ⟨a, b, c, d, e, f, g, i⟩ := h
 exact ⟨by rw [h2, h3]; exact a, by rw [h3]; exact b, by rw [h2]; exact c, by rw [h2, h5]; exact d, by rw [h1, h2]; exact e, by rw [h1]; exact f, by rw [h1, h2]; exact g, by rw [h1, h2, h3, h4]; exact i⟩
theorem EndI.due3 {s t : Dk} {xs : List Due} (h : EndI s xs) (h1 : t.asks = s.asks) (h3 : t.now = s.now) (h4 : t.look = s.look) (h5 : t.ask = s.ask)
 (hk : (xs ++ t.due).Pairwise fun a b => ¬ keyD a b) (hs : ∀ x ∈ t.due, x ∈ s.due ∨ (x.kind = 3 ∧ s.now < x.tick)) (hkp : ∀ x ∈ s.due, x.kind ≠ 3 → x ∈ t.due) : EndI t xs := by
 obtain ⟨a, b, c, d, e, f, g, i⟩ := h
 have hin : ∀ x ∈ xs ++ s.due, x.kind ≠ 3 → x ∈ xs ++ t.due := fun x hx hn => by
  rcases List.mem_append.1 hx with hx | hx
  ·exact List.mem_append_left _ hx
  ·exact mar _ (hkp x hx hn)
 have hout : ∀ x ∈ xs ++ t.due, x.kind ≠ 3 → x ∈ xs ++ s.due := fun x hx hn => by
  rcases List.mem_append.1 hx with hx | hx
  ·exact List.mem_append_left _ hx
  ·rcases hs x hx with hx | hx
   ·exact mar _ hx
   ·exact absurd hx.1 hn
 refine ⟨fun x hx => ?_, by rw [h3]; exact b, hk, fun x hx hk1 => ?_, fun x hx hk2 => ?_, by rw [h1]; exact f, fun y hy hy1 => ?_, fun y hy hy2 => ?_⟩
 ·rw [h3]
  rcases hs x hx with hx | hx
  ·exact a x hx
  ·exact hx.2
 ·rw [h5]; exact d x (hout x hx (by omega)) hk1
 ·rw [h1]; exact e x (hout x hx (by omega)) hk2
 ·rw [h1] at hy; exact hin _ (g y hy hy1) (by simp)
 ·rw [h1] at hy
  obtain ⟨i1, i2, i3⟩ := i y hy hy2
  rw [h3, h4]
  exact ⟨i1, hin _ i2 (by simp), fun hn => hin _ (i3 hn) (by simp)⟩
theorem EndI.set {s t : Dk} {xs ys : List Due} {id : Int} {x z : AskR} (h : EndI s xs) (hup : upA s.asks) (hx : getA id s.asks = some x) (hz : z.id = id)
 (ha : t.asks = setA id z s.asks) (hn : t.now = s.now) (hl : t.look = s.look) (hk : s.ask = t.ask)
 (hs1 : ∀ y ∈ t.due, y ∈ s.due ∨ (s.now < y.tick ∧ y.kind = 2 ∧ y.id = id)) (hs2 : ∀ y ∈ ys, y ∈ xs)
 (hky : (ys ++ t.due).Pairwise fun a b => ¬ keyD a b)
 (hkp : ∀ y ∈ xs ++ s.due, (y.kind = 1 ∨ y.kind = 2) → y.id ≠ id → y ∈ ys ++ t.due)
 (h2 : z.state = 2 ∨ ∀ y ∈ ys ++ t.due, y.kind = 2 → y.id ≠ id)
 (hst : z.state = 1 ∨ z.state = 2 ∨ z.state = 3 ∨ z.state = 4)
 (hop : z.state = 1 → (⟨z.ends, 1, z.id⟩ : Due) ∈ ys ++ t.due)
 (hlk : z.state = 2 → z.until_ < z.ends + s.look ∧ (⟨z.until_, 2, z.id⟩ : Due) ∈ ys ++ t.due ∧ (s.now < z.ends → (⟨z.ends, 1, z.id⟩ : Due) ∈ ys ++ t.due)) : EndI t ys := by
 obtain ⟨a, b, c, d, e, f, g, i⟩ := h
 have hout : ∀ y ∈ ys ++ t.due, y ∈ xs ++ s.due ∨ (s.now < y.tick ∧ y.kind = 2 ∧ y.id = id) := fun y hy => by
  rcases List.mem_append.1 hy with hy | hy
  ·exact .inl (List.mem_append_left _ (hs2 y hy))
  ·rcases hs1 y hy with hy | hy
   ·exact .inl (mar _ hy)
   ·exact .inr hy
 refine ⟨fun y hy => ?_, fun y hy => by rw [hn]; exact b y (hs2 y hy), hky, fun y hy hk1 => ?_, fun y hy hk2 => ?_, fun y hy => ?_, fun y hy hy1 => ?_, fun y hy hy2 => ?_⟩
 ·rw [hn]
  rcases hs1 y hy with hy | hy
  ·exact a y hy
  ·exact hy.1
 ·rcases hout y hy with hy | hy
  ·rw [← hk]; exact d y hy hk1
  ·omega
 ·rw [ha]
  by_cases hid : y.id = id
  ·rcases h2 with h2 | h2
   ·exact ⟨z, zoh hx, by rw [hz, hid], h2⟩
   ·exact absurd hid (h2 y hy hk2)
  ·rcases hout y hy with hy | hy
   ·obtain ⟨u, hu, hu1, hu2⟩ := e y hy hk2
    exact ⟨u, zm2 hx hu (by rw [hu1]; exact hid), hu1, hu2⟩
   ·exact absurd hy.2.2 hid
 ·rw [ha] at hy
  rcases zf0 hup hx hy with rfl | hy
  ·exact hst
  ·exact f y hy.1
 ·rw [ha] at hy
  rcases zf0 hup hx hy with rfl | hy
  ·exact hop hy1
  ·exact hkp _ (g y hy.1 hy1) (.inl rfl) hy.2
 ·rw [ha] at hy
  rw [hn, hl]
  rcases zf0 hup hx hy with rfl | hy
  ·exact hlk hy2
  ·obtain ⟨i1, i2, i3⟩ := i y hy.1 hy2
   exact ⟨i1, hkp _ i2 (.inr rfl) hy.2, fun hn => hkp _ (i3 hn) (.inl rfl) hy.2⟩
theorem EndI.skip {s : Dk} {x : Due} {xs : List Due} (h : EndI s (x :: xs)) (h1 : ∀ a ∈ s.asks, a.state = 1 → a.id = x.id → x.kind ≠ 1) (h2 : ∀ a ∈ s.asks, a.state = 2 → a.id = x.id → x.kind ≠ 2) : EndI s xs := by
 obtain ⟨a, b, c, d, e, f, g, i⟩ := h
 rw [List.cons_append] at c d e
 simp only [List.cons_append] at g i
 have hx := b x (by simp)
 refine ⟨a, fun y hy => b y (mcm _ hy), (List.pairwise_cons.1 c).2, fun y hy => d y (mcm _ hy), fun y hy => e y (mcm _ hy), f, fun y hy hy1 => ?_, fun y hy hy2 => ?_⟩
 ·rcases List.mem_cons.1 (g y hy hy1) with he | he
  ·exact absurd (by rw [← he]) (h1 y hy hy1 (by rw [← he]))
  ·exact he
 ·obtain ⟨i1, i2, i3⟩ := i y hy hy2
  refine ⟨i1, ?_, fun hn => ?_⟩
  ·rcases List.mem_cons.1 i2 with he | he
   ·exact absurd (by rw [← he]) (h2 y hy hy2 (by rw [← he]))
   ·exact he
  ·rcases List.mem_cons.1 (i3 hn) with he | he
   ·rw [← he] at hx
    dsimp only at hx
    omega
   ·exact he
/-! ### the end of a request, the end of a look -/
theorem zce (state : Int) (x : AskR) : (endX state x).state = state ∧ (endX state x).id = x.id := by unfold endX; split <;> exact ⟨rfl, rfl⟩
theorem EndI.ended {s t : Dk} {xs : List Due} {id : Int} {x : AskR} {state : Int} (h : EndI s xs) (hup : upA s.asks) (hx : getA id s.asks = some x) (h34 : state = 3 ∨ state = 4) (hxs : x.state = 1 ∨ x.state = 2) (h32 : state = 3 → x.state = 2)
 (hpn : ∀ y ∈ xs, y.kind = 2 → y.id ≠ id) (ha : t.asks = endA id state s.asks) (hn : t.now = s.now) (hl : t.look = s.look) (hk : t.ask = s.ask)
 (hrow : RowD s.due) {qs : List zaG} (hd : t.due = zbn (zbn (qs.foldl (fun l q => zbn l 3 q.id) s.due) 1 id) 2 id) : EndI t xs := by
 have he : endE id state s.asks = 0 := by
  unfold endE
  rw [hx]
  dsimp only
  rw [if_neg (by omega), if_neg (by omega)]
 have hid := (zbH hx).2
 have hrow2 : RowD (zbn (qs.foldl (fun l q => zbn l 3 q.id) s.due) 1 id) := zbJ (zdF qs hrow)
 refine h.set (id := id) (z := endX state x) hup hx ((zce _ _).2.trans hid) ?_ hn hl hk.symm (fun y hy => .inl ?_) (fun y hy => hy) ?_ (fun y hy hk12 hne => ?_) (.inr (fun y hy hk2 => ?_)) ?_ ?_ ?_
 ·rw [ha]; unfold endA; rw [hx]; dsimp only; rw [if_pos he]
 ·rw [hd] at hy; exact zgT qs (zet (zet hy))
 ·rw [hd]
  have hsub : (zbn (zbn (qs.foldl (fun l q => zbn l 3 q.id) s.due) 1 id) 2 id).Sublist s.due := by
   refine zcn.trans (zcn.trans ?_)
   clear hd hrow2 hrow
   generalize s.due = l
   induction qs generalizing l with
   | nil => exact List.Sublist.refl _
   | cons q qs ih => exact (ih _).trans zcn
  exact h.ky.sublist (List.Sublist.append (List.Sublist.refl _) hsub)
 ·rcases List.mem_append.1 hy with hy | hy
  ·exact List.mem_append_left _ hy
  ·refine mar _ ?_
   rw [hd]
   exact zcN (zcN (zeS qs hy (by omega)) (fun e => hne e.2)) (fun e => hne e.2)
 ·intro hyid
  rcases List.mem_append.1 hy with hy | hy
  ·exact hpn y hy hk2 hyid
  ·rw [hd] at hy
   exact zhy hrow2 y hy ⟨hk2, hyid⟩
 ·rw [(zce _ _).1]; omega
 ·rw [(zce _ _).1]; omega
 ·rw [(zce _ _).1]; omega
theorem EndI.dies {s : Dk} {xs : List Due} {x : AskR} (h : EndI s xs) (hup : upA s.asks) (hrow : RowD s.due) (hx : getA x.id s.asks = some x) (hxs : x.state = 1 ∨ x.state = 2) (hpn : ∀ y ∈ xs, y.kind = 2 → y.id ≠ x.id) : EndI (zfC s x) xs :=
 h.ended (t := zfC s x) (id := x.id) (x := x) (state := 4) (qs := s.quotes.filter (zdw x.id)) hup hx (.inr rfl) hxs (by omega) hpn rfl rfl rfl rfl hrow rfl
theorem EndI.lookEnds {s : Dk} {xs : List Due} {x : AskR} {ds : List Due} (h : EndI s xs) (hup : upA s.asks) (hrow : RowD s.due) (hx : getA x.id s.asks = some x) (hxs : x.state = 2)
 {ys : List Due} (hsub : ds.Sublist s.due) (hys : ys.Sublist xs) (hkp : ∀ y ∈ xs ++ s.due, ¬ (y.kind = 2 ∧ y.id = x.id) → y ∈ ys ++ ds) (hno : ∀ y ∈ ys ++ ds, ¬ (y.kind = 2 ∧ y.id = x.id)) : EndI (zbe false { s with due := ds } x).1 ys := by
 have hky : (ys ++ ds).Pairwise fun a b => ¬ keyD a b := h.ky.sublist (List.Sublist.append hys hsub)
 have hid := (zbH hx).2
 have hxm := (zbH hx).1
 have hlk := h.lk x hxm hxs
 unfold zbe
 dsimp only
 split
 ·rename_i hnow
  have he : endE x.id 4 s.asks = 0 := by
   unfold endE
   rw [hx]
   dsimp only
   rw [if_neg (by omega), if_neg (by omega)]
  have hrow1 : RowD ds := hrow.sub hsub
  have hin := fun (qs : List zaG) => (show ∀ y, y ∈ zbn (zbn (qs.foldl (fun l q => zbn l 3 q.id) ds) 1 x.id) 2 x.id → y ∈ ds from fun y hy => zgT qs (zet (zet hy)))
  have hkd := fun (qs : List zaG) => (show ∀ y, y ∈ ds → (y.kind = 1 ∨ y.kind = 2) → y.id ≠ x.id → y ∈ zbn (zbn (qs.foldl (fun l q => zbn l 3 q.id) ds) 1 x.id) 2 x.id from fun y hy hk hne => zcN (zcN (zeS qs hy (by omega)) (fun e => hne e.2)) (fun e => hne e.2))
  have hsb := fun (qs : List zaG) => (show (zbn (zbn (qs.foldl (fun l q => zbn l 3 q.id) ds) 1 x.id) 2 x.id).Sublist ds from by
   refine zcn.trans (zcn.trans ?_)
   generalize ds = l
   induction qs generalizing l with
   | nil => exact List.Sublist.refl _
   | cons q qs ih => exact (ih _).trans zcn)
  refine h.set (id := x.id) (z := endX 4 x) hup hx (zce _ _).2 ?_ rfl rfl rfl (fun y hy => .inl (hsub.subset (hin ((zcm x.hit s.quotes).filter (zdw x.id)) y hy))) (fun y hy => hys.subset hy) ?_ (fun y hy hk12 hne => ?_) (.inr (fun y hy hk2 hyid => ?_)) (by rw [(zce _ _).1]; omega) (by rw [(zce _ _).1]; omega) (by rw [(zce _ _).1]; omega)
  ·show endA x.id 4 s.asks = _
   unfold endA; rw [hx]; dsimp only; rw [if_pos he]
  ·exact hky.sublist (List.Sublist.append (List.Sublist.refl _) (hsb _))
  ·rcases List.mem_append.1 (hkp y hy (fun e => hne e.2)) with h1 | h1
   ·exact List.mem_append_left _ h1
   ·exact mar _ (hkd _ y h1 hk12 hne)
  ·refine hno y ?_ ⟨hk2, hyid⟩
   rcases List.mem_append.1 hy with hy | hy
   ·exact List.mem_append_left _ hy
   ·exact mar _ (hin _ y hy)
 ·rename_i hnow
  have he : zh5 x.id s.asks = 0 := by
   unfold zh5
   rw [hx]
   dsimp only
   rw [if_pos hxs]
  refine h.set (id := x.id) (z := { x with state := 1, hit := 0, until_ := 0 }) hup hx rfl ?_ rfl rfl rfl (fun y hy => .inl (hsub.subset hy)) (fun y hy => hys.subset hy) hky (fun y hy hk12 hne => hkp y hy (fun e => hne e.2)) (.inr (fun y hy hk2 hyid => hno y hy ⟨hk2, hyid⟩)) (.inl rfl) (fun _ => ?_) (fun h => absurd h (by simp))
  ·show zey x.id s.asks = _
   unfold zey; rw [hx]; dsimp only; rw [if_pos he]
  ·have h1 := hlk.2.2 (by omega)
   exact hkp _ h1 (fun e => absurd e.1 (by simp))
/-! ### ticks -/
theorem zlb {s : Dk × List OutR} (hu : upA s.1.asks) (x : Due) : upA (dueD false s x).1.asks := by
 unfold dueD
 split
 ·exact hu
 ·split
  ·exact hu
  ·rename_i a _
   split
   ·show upA (zbe false s.1 a).1.asks
    unfold zbe
    dsimp only
    split
    ·exact (zfE hu).1
    ·exact (zkd hu).1
   ·split
    ·exact (zfE hu).1
    ·exact hu
theorem zlc {s : Dk × List OutR} (hu : RowD s.1.due) (x : Due) : RowD (dueD false s x).1.due := by
 unfold dueD
 split
 ·exact hu
 ·split
  ·exact hu
  ·rename_i a _
   split
   ·show RowD (zbe false s.1 a).1.due
    unfold zbe
    dsimp only
    split
    ·exact zbJ (zbJ (zdF _ hu))
    ·exact hu
   ·split
    ·exact zbJ (zbJ (zdF _ hu))
    ·exact hu
theorem EndI.dueOne {s : Dk × List OutR} {x : Due} {xs : List Due} (h : EndI s.1 (x :: xs)) (hup : upA s.1.asks) (hrow : RowD s.1.due) : EndI (dueD false s x).1 xs := by
 have hky := h.ky
 rw [List.cons_append, List.pairwise_cons] at hky
 unfold dueD
 split
 ·rename_i h3
  exact (h.skip (fun a _ _ _ => by omega) (fun a _ _ _ => by omega)).same rfl rfl rfl rfl rfl
 ·rename_i h3
  split
  ·rename_i hg
   refine h.skip (fun a ha _ he => ?_) (fun a ha _ he => ?_)
   all_goals
    have := zpg hup ha
    rw [he, hg] at this
    cases this
  ·rename_i a hg
   have hid := (zbH hg).2
   have hga : getA a.id s.1.asks = some a := by rw [hid]; exact hg
   split
   ·rename_i h2
    refine h.lookEnds (x := a) (ds := s.1.due) hup hrow hga h2.2 (ys := xs) (List.Sublist.refl _) (List.sublist_cons_self _ _) (fun y hy hn => ?_) (fun y hy hn => ?_)
    ·rcases List.mem_cons.1 hy with rfl | hy
     ·exact absurd ⟨h2.1, hid.symm⟩ hn
     ·exact hy
    ·exact hky.1 y hy ⟨by rw [hn.1]; exact h2.1, by rw [hn.2]; exact hid.symm⟩
   ·rename_i h2
    split
    ·rename_i h1
     refine (h.dies hup hrow hga (.inl h1.2) (fun y hy hk2 => ?_)).skip ?_ ?_
     ·intro hyid
      obtain ⟨u, hu, hu1, hu2⟩ := h.d2 y (List.mem_append_left _ hy) hk2
      have := zgU hup hu (zbH hg).1 (by omega)
      rw [this] at hu2
      omega
     all_goals
      intro b hb hb1 hbid
      rw [show (zfC s.1 a).asks = endA a.id 4 s.1.asks from rfl] at hb
      unfold endA at hb
      rw [hga] at hb
      dsimp only at hb
      rw [if_pos (by unfold endE; rw [hga]; dsimp only; rw [if_neg (by omega), if_neg (by omega)])] at hb
      rcases zf0 hup hga hb with rfl | hb
      ·rw [(zce _ _).1] at hb1; omega
      ·omega
    ·rename_i h1
     refine h.skip (fun b hb hb1 hbid hk => ?_) (fun b hb hb2 hbid hk => ?_)
     ·have := zgU hup hb (zbH hg).1 (by omega)
      subst this
      exact h1 ⟨hk, hb1⟩
     ·have := zgU hup hb (zbH hg).1 (by omega)
      subst this
      exact h2 ⟨hk, hb2⟩
theorem EndI.dueAll : ∀ (xs : List Due) {s : Dk × List OutR}, EndI s.1 xs → upA s.1.asks → RowD s.1.due → EndI (xs.foldl (dueD false) s).1 []
 | [], s, h, _, _ => h
 | x :: xs, s, h, hu, hr => EndI.dueAll xs (h.dueOne hu hr) (zlb hu x) (zlc hr x)
theorem EndI.tick {N : Nat} {s : Dk} (h : EndI s []) (hD : DOK N s) : EndI (zcB false s).1 [] := by
 unfold zcB
 refine EndI.dueAll _ (s := ({ s with now := s.now + 1, due := s.due.drop (zb9 s.due (s.now + 1)) }, [])) ?_ hD.upa (hD.row.sub (List.drop_sublist _ _))
 obtain ⟨a, b, c, d, e, f, g, i⟩ := h
 simp only [List.nil_append] at c d e g i
 have hta : s.due.take (zb9 s.due (s.now + 1)) ++ s.due.drop (zb9 s.due (s.now + 1)) = s.due := List.take_append_drop _ _
 refine ⟨fun x hx => zla hD.row hx, fun x hx => zkV hx, ?_, ?_, ?_, f, ?_, ?_⟩
 all_goals (show _; dsimp only; rw [hta])
 ·exact c
 ·exact d
 ·exact e
 ·exact g
 ·intro y hy hy2
  obtain ⟨i1, i2, i3⟩ := i y hy hy2
  exact ⟨i1, i2, fun hn => i3 (by omega)⟩
/-! ### what is asked -/
theorem EndI.add3 {s : Dk} (h : EndI s []) {d : Due} (hd : d.kind = 3) (ht : s.now < d.tick) (hrow : RowD s.due) {t : Dk} (h1 : t.asks = s.asks) (h2 : t.due = addD s.due d) (h3 : t.now = s.now) (h4 : t.look = s.look) (h5 : t.ask = s.ask) : EndI t [] := by
 refine h.due3 h1 h3 h4 h5 ?_ (fun x hx => ?_) (fun x hx _ => ?_)
 ·rw [h2]; exact (zer hrow).once
 ·rw [h2] at hx
  rcases zdE hx with rfl | hx
  ·exact .inr ⟨hd, ht⟩
  ·exact .inl hx
 ·rw [h2]; exact zdD hx
theorem EndI.ask' {N : Nat} {s : Dk} (h : EndI s []) (hD : DOK N s) (who : Int) (m : MsgR) : EndI (askD s who m).d [] := by
 unfold askD
 dsimp only
 split <;> first | exact h | skip
 split <;> first | exact h | skip
 split <;> first | exact h | skip
 split <;> first | exact h | skip
 split <;> first | exact h | skip
 split <;> first | exact h | skip
 rename_i hw
 split <;> first | exact h | skip
 rename_i he
 have hw1 : 1 ≤ m.f4 := by
  have hw2 : zeM m.f4 = true := by cases hh : zeM m.f4 <;> simp_all
  unfold zeM at hw2
  exact (zck hw2).1
 have hadd : ∀ (a : AskR), addE a s.asks = 0 → ∀ y, y ∈ addA a s.asks ↔ y = a ∨ y ∈ s.asks := fun a hz y => by
  unfold addA
  rw [if_pos hz]
  conv => rhs; rw [← List.take_append_drop (bsN (cA a.id) s.asks) s.asks]
  simp only [List.mem_append, List.mem_singleton]
  constructor
  ·rintro ((h | h) | h)
   ·exact .inr (.inl h)
   ·exact .inl h
   ·exact .inr (.inr h)
  ·rintro (h | h | h)
   ·exact .inl (.inr h)
   ·exact .inl (.inl h)
   ·exact .inr h
 have hA := hadd _ (Decidable.not_not.1 he)
 obtain ⟨a, b, c, d, e, f, g, i⟩ := h
 simp only [List.nil_append] at c d e g i
 have hno : ∀ x ∈ s.due, ¬ keyD x ⟨s.now + m.f4, 1, s.ask + 1⟩ := fun x hx hk => by
  have := d x hx hk.1
  have := hk.2
  dsimp only at this
  omega
 have hnew := zkr hno
 refine ⟨fun x hx => ?_, by simp, (zer hD.row).once, fun x hx hk1 => ?_, fun x hx hk2 => ?_, fun y hy => ?_, fun y hy hy1 => ?_, fun y hy hy2 => ?_⟩
 ·rcases zdE hx with rfl | hx
  ·show s.now < s.now + m.f4
   omega
  ·exact a x hx
 ·show x.id ≤ s.ask + 1
  rcases zdE hx with rfl | hx
  ·exact Int.le_refl _
  ·have := d x hx hk1; omega
 ·rcases zdE hx with rfl | hx
  ·exact absurd hk2 (by simp)
  ·obtain ⟨u, hu, hu1⟩ := e x hx hk2
   exact ⟨u, (hA u).2 (.inr hu), hu1⟩
 ·rcases (hA y).1 hy with rfl | hy
  ·exact .inl rfl
  ·exact f y hy
 ·rcases (hA y).1 hy with rfl | hy
  ·exact hnew
  ·exact zdD (g y hy hy1)
 ·rcases (hA y).1 hy with rfl | hy
  ·exact absurd hy2 (by simp)
  ·obtain ⟨i1, i2, i3⟩ := i y hy hy2
   exact ⟨i1, zdD i2, fun hn => zdD (i3 hn)⟩
theorem EndI.quote' {N : Nat} {s : Dk} (h : EndI s []) (hD : DOK N s) (who : Int) (m : MsgR) : EndI (zdA false s who m).d [] := by
 unfold zdA
 split
 ·exact h
 ·split <;> first | exact h | skip
  split <;> first | exact h | skip
  split <;> first | exact h | skip
  split <;> first | exact h | skip
  split <;> first | exact h | skip
  rename_i hw
  dsimp only
  split <;> first | exact h | skip
  have hw1 : 1 ≤ m.f2 := by
   have hw2 : zeM m.f2 = true := by cases hh : zeM m.f2 <;> simp_all
   unfold zeM at hw2
   exact (zck hw2).1
  exact h.add3 (d := ⟨s.now + m.f2, 3, s.quote + 1⟩) rfl (by dsimp only; omega) hD.row rfl rfl rfl rfl rfl
theorem EndI.hitq {N : Nat} {s : Dk} (h : EndI s []) (hD : DOK N s) {a : AskR} (ha : getA a.id s.asks = some a) (q : zaG) : EndI (hitQ s a q).d [] := by
 unfold hitQ
 split <;> first | exact h | skip
 split <;> first | exact h | skip
 split <;> first | exact h | skip
 split <;> first | exact h | skip
 rename_i he
 have he := Decidable.not_not.1 he
 have hlk := (zcp hD.rules).2.2.1
 have h1 : a.state = 1 := by
  unfold zfb at he
  rw [ha] at he
  dsimp only at he
  split at he
  ·assumption
  ·omega
 have hop := h.op a (zbH ha).1 h1
 rw [List.nil_append] at hop
 have hnow := h.up _ hop
 dsimp only at hnow
 have hno : ∀ x ∈ s.due, ¬ keyD x ⟨s.now + s.look, 2, a.id⟩ := fun x hx hk => by
  obtain ⟨u, hu, hu1, hu2⟩ := h.d2 x (by simpa using hx) hk.1
  have := zgU hD.upa hu (zbH ha).1 (by rw [hu1]; exact hk.2)
  rw [this] at hu2
  omega
 have hnew := zkr hno
 refine h.set (id := a.id) (z := { a with state := 2, hit := q.id, until_ := s.now + s.look }) hD.upa ha rfl ?_ rfl rfl rfl (fun y hy => ?_) (fun y hy => hy) (zer hD.row).once (fun y hy _ _ => ?_) (.inl rfl) (.inr (.inl rfl)) (fun h => absurd h (by simp)) (fun _ => ?_)
 ·show zdX a.id q.id (s.now + s.look) s.asks = _
  unfold zdX; rw [ha]; dsimp only; rw [if_pos he]
 ·rcases zdE hy with rfl | hy
  ·exact .inr ⟨by dsimp only; omega, rfl, rfl⟩
  ·exact .inl hy
 ·rw [List.nil_append] at hy ⊢
  exact zdD hy
 ·rw [List.nil_append]
  exact ⟨by dsimp only; omega, hnew, fun _ => zdD hop⟩
theorem EndI.looks' {N : Nat} {s : Dk} (h : EndI s []) (hD : DOK N s) (who kind id : Int) : EndI (zdB false s who kind id).d [] := by
 unfold zdB
 split
 ·exact h
 ·rename_i a hg
  have hid := (zbH hg).2
  have hga : getA a.id s.asks = some a := by rw [hid]; exact hg
  split <;> first | exact h | skip
  rename_i hs
  have hs := Decidable.not_not.1 hs
  dsimp only
  split <;> first | exact h | skip
  split
  ·exact h.lookEnds (x := a) (ds := zbn s.due 2 a.id) hD.upa hD.row hga hs (ys := []) zcn (List.Sublist.refl _) (fun y hy hn => by rw [List.nil_append] at hy ⊢; exact zcN hy hn) (fun y hy hn => by rw [List.nil_append] at hy; exact zhy hD.row y hy hn)
  ·split <;> first | exact h | skip
   split <;> first | exact h | skip
   refine EndI.same (s := zd9 { s with used := s.used.set (qOf s a.hit).dealer.toNat (zdU s.used (qOf s a.hit).dealer + (qOf s a.hit).price * a.qty), asks := endA a.id 3 s.asks } a.id) ?_ rfl rfl rfl rfl rfl
   exact h.ended (id := a.id) (x := a) (state := 3) (qs := s.quotes.filter (zdw a.id)) hD.upa hga (.inl rfl) (.inr hs) (fun _ => hs) (by simp) rfl rfl rfl rfl hD.row rfl
theorem EndI.dropA {N : Nat} {s : Dk} (h : EndI s []) (hD : DOK N s) (who id : Int) : EndI (zb2 s who id).d [] := by
 unfold zb2
 split <;> first | exact h | skip
 rename_i hm
 have hm := Decidable.not_not.1 hm
 split
 ·exact h
 ·rename_i a hg
  have hid := (zbH hg).2
  have hga : getA a.id s.asks = some a := by rw [hid]; exact hg
  have h1 : a.state = 1 := by
   unfold zc3 at hm
   rw [hg] at hm
   dsimp only at hm
   split at hm
   ·omega
   ·split at hm
    ·omega
    ·omega
  exact h.dies hD.upa hD.row hga (.inl h1) (by simp)
theorem zfH {who : Int} {o : zaA} {n : Nat} : ∀ (fs : List zbW) (s : FSt), (fs.foldl (zb5 who o n) s).d.asks = s.d.asks ∧ (fs.foldl (zb5 who o n) s).d.due = s.d.due ∧ (fs.foldl (zb5 who o n) s).d.now = s.d.now ∧ (fs.foldl (zb5 who o n) s).d.look = s.d.look ∧ (fs.foldl (zb5 who o n) s).d.ask = s.d.ask
 | [], s => ⟨rfl, rfl, rfl, rfl, rfl⟩
 | f :: fs, s => by rw [List.foldl_cons]; exact zfH fs (zb5 who o n s f)
theorem zfI {s : Dk} {who : Int} {n : Nat} {o : zaA} {how : Int} : (zbT s who n o how).d.asks = s.asks ∧ (zbT s who n o how).d.due = s.due ∧ (zbT s who n o how).d.now = s.now ∧ (zbT s who n o how).d.look = s.look ∧ (zbT s who n o how).d.ask = s.ask := by
 unfold zbT
 dsimp only
 split
 ·exact ⟨rfl, rfl, rfl, rfl, rfl⟩
 ·exact zfH _ _
theorem zld {s : Dk} {who : Int} {m : MsgR} : (zcH s who m).d.asks = s.asks ∧ (zcH s who m).d.due = s.due ∧ (zcH s who m).d.now = s.now ∧ (zcH s who m).d.look = s.look ∧ (zcH s who m).d.ask = s.ask := by
 unfold zcH
 dsimp only
 split
 ·exact ⟨rfl, rfl, rfl, rfl, rfl⟩
 ·split
  ·exact ⟨rfl, rfl, rfl, rfl, rfl⟩
  ·split
   ·exact ⟨rfl, rfl, rfl, rfl, rfl⟩
   ·split
    ·exact zfI
    ·exact zfI
theorem zi3 {s : Dk} {who kind id price qty : Int} : (zbE s who kind id price qty).d.asks = s.asks ∧ (zbE s who kind id price qty).d.due = s.due ∧ (zbE s who kind id price qty).d.now = s.now ∧ (zbE s who kind id price qty).d.look = s.look ∧ (zbE s who kind id price qty).d.ask = s.ask := by
 unfold zbE
 dsimp only
 split
 ·exact ⟨rfl, rfl, rfl, rfl, rfl⟩
 ·split
  ·exact ⟨rfl, rfl, rfl, rfl, rfl⟩
  ·split
   ·exact ⟨rfl, rfl, rfl, rfl, rfl⟩
   ·split
    ·split
     ·exact ⟨rfl, rfl, rfl, rfl, rfl⟩
     ·split
      ·exact ⟨rfl, rfl, rfl, rfl, rfl⟩
      ·exact zfI (s := { s with books := _ })
    ·exact ⟨rfl, rfl, rfl, rfl, rfl⟩
theorem EndI.does {N : Nat} {s : Dk} (h : EndI s []) (hD : DOK N s) (who : Int) (m : MsgR) : EndI (zdR false s who m).d [] := by
 have e5 : ∀ {t : Dk}, (t.asks = s.asks ∧ t.due = s.due ∧ t.now = s.now ∧ t.look = s.look ∧ t.ask = s.ask) → EndI t [] := fun ⟨a, b, c, d, e⟩ => h.same a b c d e
 have hmine : ∀ {id : Int} {a : AskR}, getA id s.asks = some a → getA a.id s.asks = some a := fun hg => by rw [(zbH hg).2]; exact hg
 unfold zdR
 split <;> first | exact h | skip
 split
 ·exact e5 zld
 split
 ·exact e5 zi3
 split
 ·exact h.quote' hD who m
 split
 ·unfold zdl
  split
  ·exact h
  ·split <;> first | exact h | skip
   split <;> first | exact h | skip
   split <;> first | exact h | skip
   exact h.same rfl rfl rfl rfl rfl
 split
 ·unfold hitD
  split
  ·exact h
  ·split <;> first | exact h | skip
   split
   ·exact h
   ·rename_i hg
    exact h.hitq hD (hmine hg) _
 split
 ·unfold zha
  split <;> first | exact h | skip
  split
  ·exact h
  ·rename_i hg
   split
   ·exact h
   ·exact h.hitq hD (hmine hg) _
 split
 ·exact h.looks' hD who m.kind m.f0
 split
 ·exact h.dropA hD who m.f0
 split
 ·exact h.ask' hD who m
 ·unfold zeN
  split <;> first | exact h | skip
  split <;> first | exact h | skip
  exact h.same rfl rfl rfl rfl rfl
theorem EndI.do' {N : Nat} {s : Dk} (h : EndI s []) (hD : DOK N s) (who seq : Int) (m : MsgR) : EndI (doD false s who seq m).1 [] := h.does hD who m
theorem EndI.goneAll : ∀ (qs : List zaG) {s : Dk}, EndI s [] → RowD s.due → EndI (qs.foldl (zdc false) s) []
 | [], s, h, _ => h
 | q :: qs, s, h, hr => by
   rw [List.foldl_cons]
   unfold zdc
   split
   ·exact EndI.goneAll qs h hr
   ·refine EndI.goneAll qs (h.due3 (t := { s with quotes := zcm q.id s.quotes, due := zbn s.due 3 q.id }) rfl rfl rfl rfl (zbJ hr).once (fun x hx => .inl (zet hx)) (fun x hx hn => zcN hx (fun e => hn e.1))) (zbJ hr)
theorem EndI.gone {N : Nat} {s : Dk} (h : EndI s []) (hD : DOK N s) (who : Int) : EndI (zdC false s who).1 [] := by
 unfold zdC
 exact EndI.goneAll _ (h.same (t := { s with books := s.books.map (zgt who) }) rfl rfl rfl rfl rfl) hD.row
theorem EndI.new {bs : List za3} {ps : List zaV} {look beat : Int} : EndI (zeI bs ps look beat) [] := by
 refine ⟨?_, ?_, ?_, ?_, ?_, ?_, ?_, ?_⟩ <;> simp [zeI]
def OwnI (s : Dk) : Prop := ∀ l ∈ s.books, ∀ o ∈ l, o.owner ≤ 8
theorem OwnI.same {s t : Dk} (h : OwnI s) (e : t.books = s.books) : OwnI t := by unfold OwnI; rw [e]; exact h
theorem OwnI.set {s t : Dk} (h : OwnI s) {n : Nat} {m : List zaA} (e : t.books = s.books.set n m) (hm : ∀ o ∈ m, o.owner ≤ 8) : OwnI t := by
 intro l hl
 rw [e] at hl
 rcases zbY hl with rfl | hl
 ·exact hm
 ·exact h l hl
theorem OwnI.book {s : Dk} (h : OwnI s) (n : Nat) : ∀ o ∈ zbA s n, o.owner ≤ 8 := by
 unfold zbA
 intro o ho
 rw [List.getD_eq_getElem?_getD] at ho
 rcases hb : s.books[n]? with _ | l
 ·rw [hb] at ho; cases ho
 ·rw [hb] at ho
  exact h l (List.mem_of_getElem? hb) o ho
theorem DOK.bookB {N : Nat} {s : Dk} (h : DOK N s) (n : Nat) : zbh (zbA s n) := by
 unfold zbA
 rw [List.getD_eq_getElem?_getD]
 rcases hb : s.books[n]? with _ | l
 ·exact zbh.nil
 ·exact h.bks l (List.mem_of_getElem? hb)
theorem zph {how : Int} {o : zaA} {l : List zaA} (hB : zbh l) : ∀ f ∈ (doV how o l).fills, ∃ x ∈ l, f.mparty = x.owner ∧ f.price = x.price := by
 by_cases h0 : zbP how o l = 0
 ·obtain ⟨hw, e1, e2, _⟩ := zjE hB h0
  rw [e1]
  obtain ⟨xs, hsub, hlen, hf⟩ := hw.mks
  intro f hfm
  obtain ⟨i, hi⟩ := List.getElem?_of_mem hfm
  have hil := (List.getElem?_eq_some_iff.1 hi).1
  have hF := (hf i f (xs[i]'(by omega)) hi (List.getElem?_eq_getElem _)).1
  exact ⟨xs[i]'(by omega), (zea (hsub.subset (List.getElem_mem _))).1, hF.mparty, hF.price⟩
 ·rw [zjF h0]
  intro f hf; cases hf
theorem zgV {who : Int} {o : zaA} {n : Nat} : ∀ (fs : List zbW) (s : FSt), (fs.foldl (zb5 who o n) s).d.books = s.d.books
 | [], s => rfl
 | f :: fs, s => by rw [List.foldl_cons]; exact zgV fs (zb5 who o n s f)
theorem OwnI.meets {N : Nat} {s : Dk} (h : OwnI s) (hD : DOK N s) {who : Int} {n : Nat} {o : zaA} {how : Int} (ho : o.owner ≤ 8) : OwnI (zbT s who n o how).d := by
 unfold zbT
 dsimp only
 split
 ·exact h
 ·refine h.set (zgV _ _) (fun y hy => ?_)
  rcases zmr (hD.bookB n) hy with ⟨x, hx, _, _, he⟩ | ⟨_, _, he⟩
  ·rw [he]; exact h.book n x hx
  ·rw [he]; exact ho
theorem OwnI.does {N : Nat} {rf : Bool} {s : Dk} (h : OwnI s) (hD : DOK N s) (who : Int) (m : MsgR) : OwnI (zdR rf s who m).d := by
 have hH : ∀ a q, OwnI (hitQ s a q).d := fun a q => by
  unfold hitQ
  repeat' split
  all_goals exact h
 unfold zdR
 split <;> first | exact h | skip
 rename_i hc
 split
 ·rename_i h6
  have hw : who ≤ 8 := by
   have hmay : mayV s.parties who m.kind = true := by cases hh : mayV s.parties who m.kind <;> simp_all
   rw [h6] at hmay
   unfold mayV at hmay
   rw [if_pos (.inl rfl)] at hmay
   have hr : zcK s.parties who ≠ 0 := by
    intro e
    rw [e] at hmay
    exact absurd hmay (by decide)
   obtain ⟨_, hlt, _⟩ := zda hr
   have := (zcp hD.rules).2.1
   omega
  unfold zcH
  dsimp only
  split <;> first | exact h | skip
  split <;> first | exact h | skip
  split <;> first | exact h | skip
  have hm := h.meets hD (who := who) (n := m.f0.toNat) (o := ⟨s.order + 1, 0, who, m.f1, m.f2, m.f3⟩) (how := m.f4) hw
  split
  ·exact hm.same rfl
  ·exact hm
 split
 ·unfold zbE
  dsimp only
  split <;> first | exact h | skip
  split <;> first | exact h | skip
  rename_i o ho
  have hom := zjK ho
  split <;> first | exact h | skip
  rename_i hown
  have hown := Decidable.not_not.1 hown
  have how8 : o.owner ≤ 8 := h.book _ o hom.1
  have hdr : ∀ id, ∀ y ∈ zbu id (zbA s (zc2 s.books m.f0).toNat), y.owner ≤ 8 := fun id y hy => h.book _ y (zcC hy)
  have hBd : DOK N { s with books := s.books.set (zc2 s.books m.f0).toNat (zbu o.id (zbA s (zc2 s.books m.f0).toNat)) } := by
   by_cases hi : (zc2 s.books m.f0).toNat < s.books.length
   ·refine hD.setBook (l := s.books[(zc2 s.books m.f0).toNat]) (List.getElem?_eq_getElem hi) ((hD.bookB _).drop _) (fun y hy => ?_)
    have hy := zcC hy
    unfold zbA at hy
    rw [List.getD_eq_getElem?_getD, List.getElem?_eq_getElem hi] at hy
    exact ⟨y, hy, rfl, rfl⟩
   ·have e : s.books.set (zc2 s.books m.f0).toNat (zbu o.id (zbA s (zc2 s.books m.f0).toNat)) = s.books := List.set_eq_of_length_le (by omega)
    rw [e]; exact hD
  split
  ·split <;> first | exact h | skip
   split
   ·refine h.set (n := (zc2 s.books m.f0).toNat) (m := zcd o.id m.f2 (zbA s (zc2 s.books m.f0).toNat)) rfl (fun y hy => ?_)
    obtain ⟨x, hx, _, _, _, _, he⟩ := zgx hy
    rw [he]; exact h.book _ x hx
   ·have h1 : OwnI { s with books := s.books.set (zc2 s.books m.f0).toNat (zbu o.id (zbA s (zc2 s.books m.f0).toNat)) } := h.set rfl (hdr _)
    exact (h1.meets hBd (who := who) (n := (zc2 s.books m.f0).toNat) (o := { o with price := m.f1, left := m.f2 }) (how := 0) how8).same rfl
  ·exact h.set (n := (zc2 s.books m.f0).toNat) (m := zbu m.f0 (zbA s (zc2 s.books m.f0).toNat)) rfl (hdr _)
 split
 ·unfold zdA
  repeat' split
  all_goals first
   | exact h
   | (dsimp only; split <;> exact h)
 split
 ·unfold zdl
  repeat' split
  all_goals exact h
 split
 ·unfold hitD
  repeat' split
  all_goals first | exact h | exact hH _ _
 split
 ·unfold zha
  repeat' split
  all_goals first | exact h | exact hH _ _
 split
 ·unfold zdB
  split <;> first | exact h | skip
  split <;> first | exact h | skip
  dsimp only
  split <;> first | exact h | skip
  split
  ·unfold zbe
   dsimp only
   split <;> exact h
  ·split <;> first | exact h | skip
   split <;> first | exact h | skip
 split
 ·unfold zb2
  repeat' split
  all_goals exact h
 split
 ·unfold askD
  dsimp only
  repeat' split
  all_goals exact h
 ·unfold zeN
  repeat' split
  all_goals exact h
theorem OwnI.do' {N : Nat} {rf : Bool} {s : Dk} (h : OwnI s) (hD : DOK N s) (who seq : Int) (m : MsgR) : OwnI (doD rf s who seq m).1 := h.does hD who m
theorem OwnI.tick {rf : Bool} {s : Dk} (h : OwnI s) : OwnI (zcB rf s).1 := by
 have key : ∀ (xs : List Due) (t : Dk × List OutR), t.1.books = s.books → (xs.foldl (dueD rf) t).1.books = s.books := by
  intro xs
  induction xs with
  | nil => intro t e; exact e
  | cons x xs ih =>
    intro t e
    rw [List.foldl_cons]
    refine ih _ ?_
    unfold dueD
    split
    ·exact e
    ·split
     ·exact e
     ·split
      ·dsimp only
       unfold zbe
       dsimp only
       split <;> exact e
      ·split <;> exact e
 exact h.same (key _ _ rfl)
theorem OwnI.gone {rf : Bool} {s : Dk} (h : OwnI s) (who : Int) : OwnI (zdC rf s who).1 := by
 have key : ∀ (qs : List zaG) (t : Dk), (qs.foldl (zdc rf) t).books = t.books := by
  intro qs
  induction qs with
  | nil => intro t; rfl
  | cons q qs ih =>
    intro t
    rw [List.foldl_cons, ih]
    unfold zdc
    split <;> rfl
 unfold zdC
 intro l hl
 dsimp only at hl
 rw [key] at hl
 obtain ⟨m, hm, rfl⟩ := List.mem_map.1 hl
 intro o ho
 exact h m hm o (zec.1 o ho)
theorem OwnI.new {bs : List za3} {ps : List zaV} {look beat : Int} : OwnI (zeI bs ps look beat) := by
 intro l hl o ho
 have : l = [] := by
  have := List.eq_of_mem_replicate hl
  exact this
 rw [this] at ho
 cases ho
end Go.Proofs.YtakilgkpfjhfdaaGreat
namespace Go.Proofs.YtakilgkpfjhfdaaGreat
open Go Go.Sl
attribute [local irreducible] AW ES EP Ld RetQ
set_option maxRecDepth 100000
/-! ### a book by itself -/
def zbd (x : DAd) (s : Dk) (ptrs : List Value) (R : List zax) (rows : List PRow) (F : List zax) : List zax :=
 .blk x.d 95 (zb0 x s) :: x.bonds.own s.bonds.length 79 7 (s.bonds.flatMap za3.enc) :: x.parties.own s.parties.length 82 3 (s.parties.flatMap zaV.enc)
  :: x.books.own s.books.length 48 1 ptrs
  :: .blk x.f 127 [x.fparties.sl s.parties.length, x.used.sl s.parties.length] :: x.fparties.own s.parties.length 82 3 (s.parties.flatMap zaV.enc) :: x.used.own s.parties.length 2 1 (s.used.map (Value.int .i64))
  :: .blk x.q 129 [x.quotes.sl s.quotes.length] :: x.quotes.own s.quotes.length 115 6 (s.quotes.flatMap zaG.enc)
  :: .blk x.a 131 [x.asks.sl s.asks.length] :: x.asks.own s.asks.length 68 10 (s.asks.flatMap AskR.enc)
  :: .blk x.u 133 [x.due.sl s.due.length] :: x.due.own s.due.length 121 3 (s.due.flatMap Due.enc)
  :: .blk x.p 136 [x.pos.sl rows.length, x.cash.sl s.cash.length] :: x.cash.own s.cash.length 2 1 (s.cash.map (Value.int .i64)) :: x.pos.own rows.length 74 1 (rows.map PRow.hd)
  :: .blk x.b 138 [x.trades.sl s.trades.length, .int .u64 s.head] :: x.trades.own s.trades.length 103 8 (s.trades.flatMap zbc.enc)
  :: (R ++ (rows.map PRow.ck ++ F))
theorem zeu {g : Nat} {who id : Int} {o : Sp} {outs : List OutR} {x : DAd} {s : Dk} {bks : List BAd} {rows : List PRow} {F : List zax} {bd : BAd} {R : List zax} (hp : (bks.flatMap BAd.ck).Perm (BAd.ck bd ++ R)) :
 (zap g who id o outs (zai x s bks rows F)).Perm (BAd.ck bd ++ zap g who id o outs (zbd x s (bks.map BAd.ptr) R rows F)) := by
 have h1 : ∀ R', (zap g who id o outs (zbd x s (bks.map BAd.ptr) R' rows F)).Perm (R' ++ zap g who id o outs (zbd x s (bks.map BAd.ptr) [] rows F)) := fun R' => by
  unfold zap zbd
  (repeat (first | exact zaP | apply zaT))
 exact (h1 (bks.flatMap BAd.ck)).trans ((hp.append_right _).trans (by rw [List.append_assoc]; exact (h1 R).symm.append_left _))
theorem zih {bks : List BAd} {n : Nat} {bd : BAd} (h : bks[n]? = some bd) : ∃ R, ∀ b' : BAd, ((bks.set n b').flatMap BAd.ck).Perm (BAd.ck b' ++ R) := by
 obtain ⟨R, hR⟩ := zfU (List.getElem?_eq_some_iff.1 h).1
 exact ⟨R.flatMap BAd.ck, fun b' => (hR b').flatMap_right _⟩
theorem zfJ {bks : List BAd} {n : Nat} {bd b' : BAd} (h : bks[n]? = some bd) (e : b'.p = bd.p) : (bks.set n b').map BAd.ptr = bks.map BAd.ptr := by
 rw [List.map_set]
 refine zcx ?_
 rw [List.getElem?_map, h]
 unfold BAd.ptr
 rw [e]; rfl
theorem zii {bks : List BAd} {n : Nat} {bd : BAd} (h : bks[n]? = some bd) : (bks.map BAd.ptr)[n * 1]? = some (ptrV bd.p) := by simp [h]; rfl
theorem zcO {W : World} {h : List zax} {bks : List BAd} {A : Option Addr} {c n : Nat} {t : TypeId} (hm : zax.own A n c t 1 (bks.map BAd.ptr) ∈ h) (hn : bks.length = n) : zaJ W h A n 1 (bks.map BAd.ptr) := zaJ.own hm (by simp [hn]) (fun v hv => by
 obtain ⟨y, _, rfl⟩ := List.mem_map.1 hv
 rfl)
/-! ### along the fills -/
theorem zgW {who : Int} {o : zaA} {n : Nat} : ∀ (fs : List zbW) (s : FSt), (∀ f ∈ fs, 1 ≤ f.qty ∧ f.qty ≤ 1000000) → s.rest - 1000000 * fs.length ≤ (fs.foldl (zb5 who o n) s).rest ∧ (fs.foldl (zb5 who o n) s).rest ≤ s.rest
 | [], s, _ => by simp
 | f :: fs, s, h => by
   rw [List.foldl_cons]
   have h1 := zgW (who := who) (o := o) (n := n) fs (zb5 who o n s f) (fun g hg => h g (mcm _ hg))
   have h2 := h f mcs
   have h3 : (zb5 who o n s f).rest = s.rest - f.qty := rfl
   rw [List.length_cons]
   omega
theorem zfK {who : Int} {o : zaA} {n : Nat} : ∀ (fs : List zbW) (s : FSt), (fs.foldl (zb5 who o n) s).outs.length = s.outs.length + 4 * fs.length
 | [], s => by simp
 | f :: fs, s => by
   rw [List.foldl_cons, zfK fs]
   have : (zb5 who o n s f).outs.length = s.outs.length + 4 := by
    unfold zb5 zds
    simp
   rw [List.length_cons]; omega
theorem zks {who : Int} {o : zaA} {n np nb : Nat} : ∀ (fs : List zbW) (s : FSt), PsOK np nb ⟨s.d.cash, s.d.pos⟩ → (0 ≤ s.d.head ∧ s.d.head ≤ 18446744073709551615) →
 PsOK np nb ⟨(fs.foldl (zb5 who o n) s).d.cash, (fs.foldl (zb5 who o n) s).d.pos⟩ ∧ (0 ≤ (fs.foldl (zb5 who o n) s).d.head ∧ (fs.foldl (zb5 who o n) s).d.head ≤ 18446744073709551615) ∧ (fs.foldl (zb5 who o n) s).d.trades.length = s.d.trades.length + fs.length
 | [], s, h1, h2 => ⟨h1, h2, rfl⟩
 | f :: fs, s, h1, h2 => by
   rw [List.foldl_cons]
   have hh : s.d.head.toNat < 2 ^ 64 := by show s.d.head.toNat < 18446744073709551616; omega
   have hc := ziS (bs := zcf (zb1 s.d o.side who f.mparty n f.price f.qty 0)) hh
   have hc2 : zc8 s.d.head.toNat (zcf (zb1 s.d o.side who f.mparty n f.price f.qty 0)) < 18446744073709551616 := hc
   obtain ⟨i1, i2, i3⟩ := zks (who := who) (o := o) (n := n) fs (zb5 who o n s f) (zoa h1 _) (by
    show 0 ≤ ((zc8 s.d.head.toNat (zcf (zb1 s.d o.side who f.mparty n f.price f.qty 0)) : Nat) : Int) ∧ ((zc8 s.d.head.toNat (zcf (zb1 s.d o.side who f.mparty n f.price f.qty 0)) : Nat) : Int) ≤ _
    omega)
   refine ⟨i1, i2, ?_⟩
   rw [i3]
   show (s.d.trades ++ [_]).length + fs.length = _
   simp; omega
def zoA (x : DAd) (g : Nat) (who id0 : Int) (outs : List OutR) (F : List zax) (r : Rs) (v : Value) (h' : List zax) : Prop :=
 v = .int .i64 r.err ∧ ∃ (y : DAd) (o : Sp) (bks : List BAd) (rows : List PRow) (os : List OutR),
  h' = zap g who id0 o os (zai (y.at x.d) r.d bks rows F) ∧ za6 r.d bks rows ∧ (r.err = 0 → os = outs ++ r.outs)
set_option maxHeartbeats 8000000 in
theorem zhJ (W : World) (F : List zax) (x : DAd) (s : Dk) (bks : List BAd) (rows : List PRow) (N : Nat) (hD : DOK N s) (hO : OwnI s) (hN : N ≤ 10000) (hf : za6 s bks rows) (g : Nat) (who id0 : Int) (o : Sp) (outs : List OutR) (n : Nat) (od : zaA) (how : Int) (hn : n < s.books.length) (hw : 0 ≤ who ∧ who ≤ 8) (hbo : outs.length ≤ 900000) :
 zaB Tryz.prog W 143 [ptrV x.d, ptrV g, .int .i64 n, .agg od.enc.toArray, .int .i64 how] (zap g who id0 o outs (zai x s bks rows F)) (zoA x g who id0 outs F (zbT s who n od how)) := by
 obtain ⟨bd, hb1, hb2, hb3⟩ := zod hf hn
 obtain ⟨R, hR⟩ := zih hb1
 have hself : bks.set n bd = bks := zcx hb1
 have hB : zbh bd.l := hD.bks _ (List.mem_of_getElem? hb3)
 have hp0 := hR bd
 rw [hself] at hp0
 refine zaB.perm ?_ (zeu hp0)
 refine zaB.dropTo ?_
 have hsq := hD.seq
 have hl := zfj hf
 have h4 := hD.few
 have hDo := fun G => znL W G bd.p bd.s.A bd.s.c bd.l { od with seq := s.seq + 1 } how hB
 have hfq := zms (how := how) (o := { od with seq := s.seq + 1 }) hB
 have hfm := zph (how := how) (o := { od with seq := s.seq + 1 }) hB
 have hfl := zgy (how := how) (o := { od with seq := s.seq + 1 }) hB
 unfold zbT
 rw [hb2]
 have hbad : (doV how { od with seq := s.seq + 1 } bd.l).err ≠ 0 → (doV how { od with seq := s.seq + 1 } bd.l).bk = bd.l := fun he => by
  unfold doV at he ⊢
  split
  ·rename_i h0; rw [if_pos h0] at he; exact absurd rfl he
  ·rfl
 have hol : (doV how { od with seq := s.seq + 1 } bd.l).err = 0 → 1 ≤ od.left ∧ od.left ≤ 1000000 := fun he => by
  have h0 : zbP how { od with seq := s.seq + 1 } bd.l = 0 := by
   unfold doV at he
   split at he
   ·assumption
   ·exact he
  have := zeb (zeq h0)
  dsimp only at this
  omega
 generalize doV how { od with seq := s.seq + 1 } bd.l = v at *
 have hix := zii hb1
 have hrd : zaJ W (BAd.ck bd ++ zap g who id0 o outs (zbd x s (bks.map BAd.ptr) R rows F)) x.books.A s.books.length 1 (bks.map BAd.ptr) := zcO (c := x.books.c) (t := 48) (by unfold BAd.ck zap zbd; (repeat (first | exact mcs | apply mcm))) hl
 dsimp only
 by_cases hv : v.err ≠ 0
 ·rw [if_pos hv]
  rw [hbad hv] at hDo
  refine zan Tryz.func143 rfl rfl Tryz.results143 Tryz.ntmps143 rfl rfl ?_
  refine zaU hrd rfl (fun hAi => ?_)
  have hA := hAi (by omega)
  unfold BAd.ck zap zbd
  simp only [List.cons_append, List.nil_append]
  repeat' (first | apply zae | apply zaa | apply zaj | apply zad | apply zab hT; iterate 4 exact rfl | (apply zaN hT; (iterate 4 exact rfl); (iterate 2 (first | omega ))) | apply zaM [] [] hmix; decide +kernel | apply zaK; (iterate 5 exact rfl); intro g8 | (apply zaF hT; (iterate 6 exact rfl); (repeat (first | exact sel0 )); (iterate 3 exact rfl); exact nle rfl) | apply zaS hT; (iterate 8 exact rfl); (iterate 2 omega); exact hA | (apply zal; (iterate 5 exact rfl); exact zbl hT rfl rfl (hrd.mono (by intro c hc; unfold BAd.ck zap zbd at hc; revert c; exact fun c hc => by (repeat (first | exact hc | apply mcm)))) rfl hix) | (apply zaz; (iterate 7 exact rfl); exact (zaB.perm (hDo _) (by (repeat (first | exact List.Perm.refl _ | (apply zaX; · (repeat (first | exact sel0 | apply selS ))) )))); rintro _ _ ⟨Af, cf, Ag, cg, A3, c3, rfl, rfl, hof, hog⟩) | (apply zal; (iterate 5 exact rfl); first | (apply zaC hT; exact rfl; exact rfl; (repeat (first | exact mcs | apply mcm )); exact rfl; exact rfl) | (apply zaQ hT; exact rfl; exact rfl; (repeat (first | exact mcs )); exact rfl)) | (apply zam; exact rfl; all_goals (intro hb; (try dsimp only at hb); (try simp only [hb]); (first | replace hb := zaD hb | replace hb := zaE hb ); (try omega))))
  all_goals try omega
  all_goals
   apply ret1
   exact rfl
   refine ⟨zap g who id0 o outs (zai x s (bks.set n ⟨bd.p, ⟨A3, c3⟩, bd.l⟩) rows F), ?_, rfl, x, o, bks.set n ⟨bd.p, ⟨A3, c3⟩, bd.l⟩, rows, outs, rfl, ⟨?_, hf.2⟩, fun h => absurd h hv⟩
   ·refine zem (show zbk _ (BAd.ck ⟨bd.p, ⟨A3, c3⟩, bd.l⟩ ++ zap g who id0 o outs (zbd x s ((bks.set n ⟨bd.p, ⟨A3, c3⟩, bd.l⟩).map BAd.ptr) R rows F)) from ?_) (zfx (zeu (hR _)).symm)
    rw [zfJ (b' := ⟨bd.p, ⟨A3, c3⟩, bd.l⟩) hb1 rfl]
    unfold BAd.ck zap zbd
    simp only [List.cons_append, List.nil_append]
    (repeat (first | exact zar | (apply zay; · (repeat (first | exact sel0 | apply selS ))) | (apply za1; · (repeat (first | exact zaP | apply zaT ))) | apply zat))
   ·rw [List.map_set]
    exact (zcx (by rw [List.getElem?_map, hb1]; rfl)).trans hf.1
 ·rw [if_neg hv]
  have hv := Decidable.not_not.1 hv
  have hol := hol hv
  rw [hv] at hDo
  generalize hd0 : ({ s with seq := s.seq + 1, books := s.books.set n v.bk } : Dk) = d0 at *
  have hd0n : d0.now = s.now := by rw [← hd0]
  have hd0c : d0.cash = s.cash := by rw [← hd0]
  have hd0p : d0.pos = s.pos := by rw [← hd0]
  have hd0h : d0.head = s.head := by rw [← hd0]
  have hd0t : d0.trades = s.trades := by rw [← hd0]
  have hnt := hD.nt
  have hnw := hD.now
  refine zan Tryz.func143 rfl rfl Tryz.results143 Tryz.ntmps143 rfl rfl ?_
  refine zaU hrd rfl (fun hAi => ?_)
  have hA := hAi (by omega)
  unfold BAd.ck zap zbd
  simp only [List.cons_append, List.nil_append]
  repeat' (first | apply zae | apply zaa | apply zah | apply zaf | apply zad | apply zab hT; iterate 4 exact rfl | (apply zaN hT; (iterate 4 exact rfl); (iterate 2 (first | omega ))) | apply zaM [] [] hmix; decide +kernel | apply zaK; (iterate 5 exact rfl); intro g8 | (apply zaF hT; (iterate 6 exact rfl); (repeat (first | exact sel0 | apply selS )); (iterate 3 exact rfl); exact nle rfl) | apply zaS hT; (iterate 8 exact rfl); (iterate 2 omega); exact hA | (apply zal; (iterate 5 exact rfl); exact zbl hT rfl rfl (hrd.mono (by intro c hc; unfold BAd.ck zap zbd at hc; revert c; exact fun c hc => by (repeat (first | exact hc | apply mcm)))) rfl hix) | (apply zaz; (iterate 7 exact rfl); exact (zaB.perm (hDo _) (by (repeat (first | exact List.Perm.refl _ | (apply zaX; · (repeat (first | exact sel0 | apply selS ))) )))); rintro _ _ ⟨Af, cf, Ag, cg, A3, c3, rfl, rfl, hof, hog⟩) | (apply zal; (iterate 5 exact rfl); first | (apply zaC hT; exact rfl; exact rfl; (repeat (first | exact mcs | apply mcm )); exact rfl; exact rfl) | (apply zaQ hT; exact rfl; exact rfl; (repeat (first | exact mcs )); exact rfl)) | apply zag; iterate 2 exact rfl)
  all_goals try omega
  all_goals
   generalize hb2e : bks.set n ⟨bd.p, ⟨A3, c3⟩, v.bk⟩ = bks2
   have hsp : (bks2.flatMap BAd.ck).Perm (BAd.ck ⟨bd.p, ⟨A3, c3⟩, v.bk⟩ ++ R) := by rw [← hb2e]; exact hR _
   have hptr : bks2.map BAd.ptr = bks.map BAd.ptr := by rw [← hb2e]; exact zfJ hb1 rfl
   have hf0 : za6 d0 bks2 rows := by
    rw [← hd0, ← hb2e]
    exact ⟨by rw [List.map_set, hf.1], hf.2⟩
   refine zbj (α := Nat × Sp) (E := fun z => [(0, ptrV x.d), (1, ptrV g), (2, .int .i64 n), (4, .int .i64 how), (8, .pointer (some ⟨g8, 0, none⟩)), (11, .slice Af v.fills.length cf), (13, .int .i64 v.left), (51, .slice Ag v.gones.length cg), (52, .int .i64 v.gones.length), (53, .int .i64 z.1)])
    (H := fun z => .own Af v.fills.length cf 242 7 (v.fills.flatMap zbW.enc) :: .own Ag v.gones.length cg 240 3 (v.gones.flatMap zcL.enc) :: .blk g8 52 (zaA.enc { od with seq := s.seq + 1 }) :: zap g who id0 z.2 (outs ++ (v.gones.take z.1).map fun g => outM who 21 [g.id, g.left]) (zai x d0 bks2 rows F)) (μ := fun z => v.gones.length - z.1)
    (S := fun z => z.1 ≤ v.gones.length) (0, o) (Nat.zero_le _) ⟨rfl, rfl, rfl, rfl, rfl, rfl, rfl, rfl, rfl, rfl, trivial⟩ ?_ ?_
   ·dsimp only
    rw [List.take_zero, List.map_nil, List.append_nil]
    refine zem (show zbk _ (.own Af v.fills.length cf 242 7 (v.fills.flatMap zbW.enc) :: .own Ag v.gones.length cg 240 3 (v.gones.flatMap zcL.enc) :: .blk g8 52 (zaA.enc { od with seq := s.seq + 1 }) :: (BAd.ck ⟨bd.p, ⟨A3, c3⟩, v.bk⟩ ++ zap g who id0 o outs (zbd x d0 (bks2.map BAd.ptr) R rows F))) from ?_) (zfx ((((zeu hsp).symm.cons _).cons _).cons _))
    rw [hptr]
    subst hd0
    have hls : (s.books.set n v.bk).length = s.books.length := by simp
    have hcs : zb0 x { s with seq := s.seq + 1, books := s.books.set n v.bk } = zb0 x { s with seq := s.seq + 1 } := by simp only [zb0, hls]
    unfold BAd.ck zap zbd
    rw [hcs, hls]
    simp only [List.cons_append, List.nil_append]
    (repeat (first | exact zar | (apply zay; · (repeat (first | exact sel0 | apply selS )))))
   ·rintro ⟨k, o2⟩ hkk
    dsimp only at hkk ⊢
    have hgl : ((v.gones.take k).map fun g => outM who 21 [g.id, g.left]).length ≤ 64 := by rw [List.length_map, List.length_take]; omega
    have hbok : (outs ++ (v.gones.take k).map fun g => outM who 21 [g.id, g.left]).length ≤ 1000000 := by rw [List.length_append]; omega
    by_cases hlt : k < v.gones.length
    ·obtain ⟨ge, hge⟩ : ∃ ge, v.gones[k]? = some ge := ⟨v.gones[k]'hlt, List.getElem?_eq_getElem hlt⟩
     have hge2 : v.gones[(k : Int).toNat]? = some ge := by simpa using hge
     have hd1 : decide ((k : Int) < (v.gones.length : Int)) = true := by simp; omega
     have hst : (outs ++ (v.gones.take (k + 1)).map fun g => outM who 21 [g.id, g.left]) = (outs ++ (v.gones.take k).map fun g => outM who 21 [g.id, g.left]) ++ [outM who 21 [ge.id, ge.left]] := by
      rw [List.take_add_one, hge, List.map_append, List.append_assoc]; rfl
     generalize (outs ++ (v.gones.take k).map fun g => outM who 21 [g.id, g.left]) = os1 at *
     generalize hos2 : (outs ++ (v.gones.take (k + 1)).map fun g => outM who 21 [g.id, g.left]) = os2 at *
     refine zaU (hog.reads mem1) rfl (fun hGi => ?_)
     have hGA := hGi (by omega)
     unfold zap zai
     repeat' (first | apply zae | apply zaa | apply zah | apply zaf | apply zad | apply zab hT; iterate 4 exact rfl | (apply zaN hT; (iterate 4 exact rfl); (iterate 2 (first | omega ))) | apply zaM [] [] hmix; decide +kernel | apply zaS hT; (iterate 8 exact rfl); (iterate 2 omega); exact hGA | (apply zal; (iterate 5 exact rfl); exact zaY hT rfl rfl (hog.reads (by (repeat (first | exact mcs | apply mcm )))) zcL.enc_len rfl hge2 rfl) | (apply zaI hT; (iterate 5 exact rfl); first | (fail_if_success (have q := g16)); intro g16) | (apply zaF hT; (iterate 6 exact rfl); (repeat (first | exact sel0 )); (iterate 3 exact rfl); exact nle rfl) | (apply zao (cs := [.int .i64 ge.id, .int .i64 ge.left]) hT; (iterate 12 exact rfl); intro g66) | (apply zaz; (iterate 7 exact rfl); exact (zbZ W _ g who id0 o2 os1 _ (some ⟨g66, 0, none⟩) 2 who 21 [ge.id, ge.left] (by (repeat (first | exact List.Perm.refl _ | (apply zaX; · (repeat (first | exact sel0 | apply selS ))) ))) (by (repeat (first | exact mcs ))) (Nat.le_of_ble_eq_true rfl) hbok); rintro _ _ ⟨rfl, o3, rfl⟩) | (apply zal; (iterate 5 exact rfl); first | (apply zaC hT; exact rfl; exact rfl; (repeat (first | exact mcs | apply mcm )); exact rfl; exact rfl) ) | (apply zam; exact rfl; all_goals (intro hb; (try dsimp only at hb); (try simp only [hb]); (first | replace hb := odt hb | replace hb := odf hb ); (try omega))))
     all_goals first
      | (exfalso; omega)
      | exact zaR (k + 1, o3) (by (try dsimp only); omega) (by (try dsimp only); omega) ⟨rfl, rfl, rfl, rfl, rfl, rfl, rfl, rfl, rfl, rfl, trivial⟩ (by dsimp only; rw [hos2, hst]; unfold zap; (repeat (first | exact zar | (apply zay; · (repeat (first | exact sel0 | apply selS ))) | (apply za1; · (repeat (first | exact zaP | apply zaT ))) | apply zat)))
      | skip
    ·obtain rfl : k = v.gones.length := by omega
     have hd1 : decide ((v.gones.length : Int) < (v.gones.length : Int)) = false := by simp
     rw [List.take_length] at *
     generalize hgo : (v.gones.map fun g => outM who 21 [g.id, g.left]) = go at *
     have hgol : go.length ≤ 64 := by rw [← hgo, List.length_map]; omega
     refine zaU (hof.reads mem0) rfl (fun hFi => ?_)
     repeat' (first | apply zae | apply zaa | apply zas | apply zaf | apply zad | apply zab hT; iterate 4 exact rfl | (apply zal; (iterate 5 exact rfl); first | (apply zaC hT; exact rfl; exact rfl; (repeat (first | exact mcs | apply mcm )); exact rfl; exact rfl) ) | (apply zam; exact rfl; all_goals (intro hb; (try dsimp only at hb); (try simp only [hb]); (first | replace hb := odt hb | replace hb := odf hb ); (try omega))))
     all_goals try omega
     all_goals
      refine zbj (α := Nat × Sp × DAd × List PRow) (E := fun z => [(0, ptrV x.d), (1, ptrV g), (2, .int .i64 n), (4, .int .i64 how), (8, .pointer (some ⟨g8, 0, none⟩)), (13, .int .i64 v.left), (17, .int .i64 ((v.fills.take z.1).foldl (zb5 who od n) ⟨d0, go, od.left⟩).rest), (71, .slice Af v.fills.length cf), (72, .int .i64 v.fills.length), (73, .int .i64 z.1)])
       (H := fun z => .own Af v.fills.length cf 242 7 (v.fills.flatMap zbW.enc) :: .blk g8 52 (zaA.enc { od with seq := s.seq + 1 }) :: zap g who id0 z.2.1 (outs ++ ((v.fills.take z.1).foldl (zb5 who od n) ⟨d0, go, od.left⟩).outs) (zai (z.2.2.1.at x.d) ((v.fills.take z.1).foldl (zb5 who od n) ⟨d0, go, od.left⟩).d bks2 z.2.2.2 F)) (μ := fun z => v.fills.length - z.1)
       (S := fun z => z.1 ≤ v.fills.length ∧ za6 ((v.fills.take z.1).foldl (zb5 who od n) ⟨d0, go, od.left⟩).d bks2 z.2.2.2) (0, o2, x, rows) ⟨Nat.zero_le _, hf0⟩ ⟨rfl, rfl, rfl, rfl, rfl, rfl, rfl, rfl, rfl, rfl, trivial⟩ ?_ ?_
      ·dsimp only
       show zbk _ (.own Af v.fills.length cf 242 7 (v.fills.flatMap zbW.enc) :: .blk g8 52 (zaA.enc { od with seq := s.seq + 1 }) :: zap g who id0 o2 (outs ++ go) (zai (x.at x.d) d0 bks2 rows F))
       unfold zap zai
       (repeat (first | exact zar | (apply zay; · (repeat (first | exact sel0 | apply selS ))) | (apply za1; · (repeat (first | exact zaP | apply zaT ))) | apply zat))
      ·rintro ⟨k, o3, y, rows3⟩ ⟨hkk, hf3⟩
       dsimp only at hkk hf3 ⊢
       have hq3 : ∀ f ∈ v.fills.take k, 1 ≤ f.qty ∧ f.qty ≤ 1000000 := fun f hf => hfq f (List.mem_of_mem_take hf)
       have hrs := zgW (who := who) (o := od) (n := n) (v.fills.take k) ⟨d0, go, od.left⟩ hq3
       have hos := zfK (who := who) (o := od) (n := n) (v.fills.take k) ⟨d0, go, od.left⟩
       have hok := zks (who := who) (o := od) (n := n) (v.fills.take k) ⟨d0, go, od.left⟩ (by dsimp only; rw [hd0c, hd0p]; exact hD.psok) (by dsimp only; rw [hd0h]; exact hD.head)
       have hnow := (zfH (who := who) (o := od) (n := n) (v.fills.take k) ⟨d0, go, od.left⟩).2.2.1
       dsimp only at hrs hos hok hnow
       rw [List.length_take] at hrs hos hok
       rw [hd0t] at hok
       rw [hd0n] at hnow
       by_cases hlt : k < v.fills.length
       ·obtain ⟨f, hf1⟩ : ∃ f, v.fills[k]? = some f := ⟨v.fills[k]'hlt, List.getElem?_eq_getElem hlt⟩
        have hf2 : v.fills[(k : Int).toNat]? = some f := by simpa using hf1
        have hfmem := List.mem_of_getElem? hf1
        obtain ⟨fq1, fq2⟩ := hfq f hfmem
        obtain ⟨bo, hbo1, hbo2, hbo3⟩ := hfm f hfmem
        have hbow := hO bd.l (List.mem_of_getElem? hb3) bo hbo1
        have hbok := hB.ok bo hbo1
        simp only [okO, Bool.and_eq_true, decide_eq_true_eq] at hbok
        obtain ⟨⟨⟨⟨⟨⟨⟨_, _⟩, hpr1⟩, hpr2⟩, _⟩, _⟩, how0⟩, _⟩ := hbok
        have hd1 : decide ((k : Int) < (v.fills.length : Int)) = true := by simp; omega
        have hstp : (v.fills.take (k + 1)).foldl (zb5 who od n) ⟨d0, go, od.left⟩ = zb5 who od n ((v.fills.take k).foldl (zb5 who od n) ⟨d0, go, od.left⟩) f := by
         rw [List.take_add_one, hf1, List.foldl_append]; rfl
        generalize (v.fills.take k).foldl (zb5 who od n) ⟨d0, go, od.left⟩ = st at *
        generalize hst2 : (v.fills.take (k + 1)).foldl (zb5 who od n) ⟨d0, go, od.left⟩ = st2 at *
        have hFA := hFi (by omega)
        have hmin : min k v.fills.length = k := by omega
        rw [hmin] at hrs hos hok
        have hl1 : (outs ++ st.outs).length ≤ 1000000 := by rw [List.length_append]; omega
        have hl2 : (outs ++ st.outs ++ [outM f.mparty 20 [f.maker, f.price, f.qty, f.left]]).length ≤ 1000000 := by rw [List.length_append, List.length_append]; show _ + 1 ≤ _; omega
        have hl3 : (outs ++ st.outs ++ [outM f.mparty 20 [f.maker, f.price, f.qty, f.left]] ++ [outM who 20 [od.id, f.price, f.qty, st.rest - f.qty]]).length ≤ 1000000 := by rw [List.length_append, List.length_append, List.length_append]; show _ + 1 + 1 ≤ _; omega
        have htl : st.d.trades.length ≤ 900000 := by omega
        have hTr := fun G o5 => zgR W G (y.at x.d) st.d bks2 rows3 g who id0 o5 (outs ++ st.outs ++ [outM f.mparty 20 [f.maker, f.price, f.qty, f.left]] ++ [outM who 20 [od.id, f.price, f.qty, st.rest - f.qty]]) od.side who f.mparty n f.price f.qty 0 _ _ hf3 hok.1 hok.2.1 htl (zi1 htl (by unfold inW; omega) (by unfold inW; omega) (by unfold inW; omega) (by unfold inW; omega) (by unfold inW; omega) (by unfold inW; omega) (by rw [hnow]; unfold inW; omega)) hl3
        have hfd : zb5 who od n st f = ⟨zdi st.d (zb1 st.d od.side who f.mparty n f.price f.qty 0), st.outs ++ [outM f.mparty 20 [f.maker, f.price, f.qty, f.left], outM who 20 [od.id, f.price, f.qty, st.rest - f.qty]] ++ zds (zb1 st.d od.side who f.mparty n f.price f.qty 0), st.rest - f.qty⟩ := rfl
        generalize zb1 st.d od.side who f.mparty n f.price f.qty 0 = tr at *
        unfold zap zai
        repeat' (first | apply zae | apply zaa | apply zah | apply zaf | apply zad | apply zab hT; iterate 4 exact rfl | (apply zaN hT; (iterate 4 exact rfl); (iterate 2 (first | omega ))) | apply zaM [] [] hmix; decide +kernel | apply zaS hT; (iterate 8 exact rfl); (iterate 2 omega); exact hFA | (apply zal; (iterate 5 exact rfl); exact zaY hT rfl rfl (hof.reads (by (repeat (first | exact mcs | apply mcm )))) zbW.enc_len rfl hf2 rfl) | (apply zaI hT; (iterate 5 exact rfl); first | (fail_if_success (have q := g19)); intro g19) | (apply zaF hT; (iterate 6 exact rfl); (repeat (first | exact sel0 )); (iterate 3 exact rfl); exact nle rfl) | (apply zao (cs := [.int .i64 f.maker, .int .i64 f.price, .int .i64 f.qty, .int .i64 f.left]) hT; (iterate 12 exact rfl); intro g92) | (apply zao (cs := [.int .i64 od.id, .int .i64 f.price, .int .i64 f.qty, .int .i64 (st.rest - f.qty)]) hT; (iterate 12 exact rfl); intro g106) | ((fail_if_success (have q := o4)); apply zaz; (iterate 7 exact rfl); exact (zbZ W _ g who id0 o3 (outs ++ st.outs) _ (some ⟨g92, 0, none⟩) 4 f.mparty 20 [f.maker, f.price, f.qty, f.left] (by (repeat (first | exact List.Perm.refl _ | (apply zaX; · (repeat (first | exact sel0 | apply selS ))) ))) (by (repeat (first | exact mcs ))) (Nat.le_of_ble_eq_true rfl) hl1); rintro _ _ ⟨rfl, o4, rfl⟩) | ((fail_if_success (have q := o5)); apply zaz; (iterate 7 exact rfl); exact (zbZ W _ g who id0 o4 (outs ++ st.outs ++ [outM f.mparty 20 [f.maker, f.price, f.qty, f.left]]) _ (some ⟨g106, 0, none⟩) 4 who 20 [od.id, f.price, f.qty, st.rest - f.qty] (by (repeat (first | exact List.Perm.refl _ | (apply zaX; · (repeat (first | exact sel0 | apply selS ))) ))) (by (repeat (first | exact mcs ))) (Nat.le_of_ble_eq_true rfl) hl2); rintro _ _ ⟨rfl, o5, rfl⟩) | (apply zaO hT (cs := zbc.enc ⟨0, n, 0, 0, f.price, f.qty, 0, 0⟩); iterate 4 exact rfl) | (apply zaz; (iterate 7 exact rfl); exact (zaB.perm (hTr _ o5) (by (repeat (first | exact List.Perm.refl _ | (apply zaX; · (repeat (first | exact sel0 | apply selS ))) | (apply za0; · (repeat (first | exact zaP | apply zaT ))))))); rintro _ _ ⟨rfl, y2, o6, rows4, rfl, hf4⟩) | (apply zal; (iterate 5 exact rfl); first | (apply zaC hT; exact rfl; exact rfl; (repeat (first | exact mcs | apply mcm )); exact rfl; exact rfl) ) | (apply zam; exact rfl; all_goals (intro hb; (try dsimp only at hb); (try simp only [hb]); (first | replace hb := odt hb | replace hb := odf hb ); (try omega))))
        all_goals try omega
        all_goals
         refine zaR (k + 1, o6, y2, rows4) (by (try dsimp only); omega) ⟨by (try dsimp only); omega, by dsimp only; rw [hst2, hstp, hfd]; exact hf4⟩ ⟨rfl, rfl, rfl, rfl, rfl, rfl, by rw [hst2, hstp, hfd]; rfl, rfl, rfl, rfl, trivial⟩ ?_
         dsimp only
         rw [hst2, hstp, hfd]
         dsimp only
         rw [show outs ++ (st.outs ++ [outM f.mparty 20 [f.maker, f.price, f.qty, f.left], outM who 20 [od.id, f.price, f.qty, st.rest - f.qty]] ++ zds tr) = outs ++ st.outs ++ [outM f.mparty 20 [f.maker, f.price, f.qty, f.left]] ++ [outM who 20 [od.id, f.price, f.qty, st.rest - f.qty]] ++ zds tr by simp [List.append_assoc]]
         (repeat (first | exact zar | (apply zay; · (repeat (first | exact sel0 | apply selS | apply zbO))) | (apply za1; · (repeat (first | exact zaP ))) | apply zat))
       ·obtain rfl : k = v.fills.length := by omega
        have hd1 : decide ((v.fills.length : Int) < (v.fills.length : Int)) = false := by simp
        rw [List.take_length] at *
        rw [Nat.min_self] at hrs hos hok
        generalize v.fills.foldl (zb5 who od n) ⟨d0, go, od.left⟩ = st at *
        have hl1 : (outs ++ st.outs).length ≤ 1000000 := by rw [List.length_append]; omega
        by_cases hlast : how ≠ 0 ∧ how ≠ 3 ∧ v.left > 0
        ·rw [if_pos hlast]
         unfold zap zai
         repeat' (first | apply zae | apply zaa | apply zaj | apply zas | apply zad | apply zab hT; iterate 4 exact rfl | apply zaM [] [] hmix; decide +kernel | apply zao (cs := [.int .i64 od.id, .int .i64 v.left]) hT; (iterate 12 exact rfl); intro g144 | (apply zaz; (iterate 7 exact rfl); exact (zbZ W _ g who id0 o3 (outs ++ st.outs) _ (some ⟨g144, 0, none⟩) 2 who 21 [od.id, v.left] (by (repeat (first | exact List.Perm.refl _ | (apply zaX; · (repeat (first | exact sel0 | apply selS ))) ))) (by (repeat (first | exact mcs ))) (Nat.le_of_ble_eq_true rfl) hl1); rintro _ _ ⟨rfl, o4, rfl⟩) | (apply zal; (iterate 5 exact rfl); first | (apply zaC hT; exact rfl; exact rfl; (repeat (first | exact mcs | apply mcm )); exact rfl; exact rfl) ) | (apply zav; exact rfl; all_goals (intro hb; (fail_if_success (change true = true at hb)); (fail_if_success (change false = false at hb)); (try dsimp only at hb); (try simp only [hb]); (first | replace hb := zaD hb | replace hb := zaE hb ); (try omega))) | (apply zam; exact rfl; all_goals (intro hb; (try dsimp only at hb); (try simp only [hb]); (first | replace hb := odt hb | replace hb := odf hb ); (try omega))))
         all_goals try omega
         all_goals (apply ret1; exact rfl; exact ⟨zap g who id0 o4 (outs ++ st.outs ++ [outM who 21 [od.id, v.left]]) (zai (y.at x.d) st.d bks2 rows3 F), by (unfold zap zai; (repeat (first | exact zar | (apply zay; · (repeat (first | exact sel0 | apply selS ))) | (apply za1; · (repeat (first | exact zaP | apply zaT ))) | apply zat))), rfl, y, o4, bks2, rows3, _, rfl, hf3, fun _ => List.append_assoc _ _ _⟩)
        ·rw [if_neg hlast]
         unfold zap zai
         repeat' (first | apply zae | apply zaa | apply zaj | apply zah | apply zas | apply zad | apply zab hT; iterate 4 exact rfl | apply zaq; iterate 3 exact rfl | apply zag; iterate 2 exact rfl | (apply zav; exact rfl; all_goals (intro hb; (fail_if_success (change true = true at hb)); (fail_if_success (change false = false at hb)); (try dsimp only at hb); (try simp only [hb]); (first | replace hb := zaD hb | replace hb := zaE hb ); (try omega))) | (apply zam; exact rfl; all_goals (intro hb; (try dsimp only at hb); (try simp only [hb]); (first | replace hb := odt hb | replace hb := odf hb ); (try omega))))
         all_goals try omega
         all_goals (apply ret1; exact rfl; exact ⟨zap g who id0 o3 (outs ++ st.outs) (zai (y.at x.d) st.d bks2 rows3 F), by (unfold zap zai; (repeat (first | exact zar | (apply zay; · (repeat (first | exact sel0 | apply selS ))) | (apply za1; · (repeat (first | exact zaP | apply zaT ))) | apply zat))), rfl, y, o3, bks2, rows3, _, rfl, hf3, fun _ => rfl⟩)
theorem zcP {g : Nat} {who id : Int} {o : Sp} {outs : List OutR} {x : DAd} {s : Dk} {bks : List BAd} {rows : List PRow} {F : List zax} {bd : BAd} {R : List zax} (hp : (bks.flatMap BAd.ck).Perm (BAd.ck bd ++ R)) :
 (zap g who id o outs (zai x s bks rows F)).Perm (.blk bd.p 106 [bd.s.sl bd.l.length] :: bd.s.own bd.l.length 52 6 (bd.l.flatMap zaA.enc) :: zap g who id o outs (zbd x s (bks.map BAd.ptr) R rows F)) := zeu hp
theorem DOK.setDrop {N : Nat} {s : Dk} (hD : DOK N s) (n : Nat) (id : Int) : DOK N { s with books := s.books.set n (zbu id (zbA s n)) } := by
 by_cases hi : n < s.books.length
 ·refine hD.setBook (l := s.books[n]) (List.getElem?_eq_getElem hi) ((hD.bookB _).drop _) (fun y hy => ?_)
  have hy := zcC hy
  unfold zbA at hy
  rw [List.getD_eq_getElem?_getD, List.getElem?_eq_getElem hi] at hy
  exact ⟨y, hy, rfl, rfl⟩
 ·have e : s.books.set n (zbu id (zbA s n)) = s.books := List.set_eq_of_length_le (by omega)
  rw [e]; exact hD
def chgD (s : Dk) (who : Int) (n : Nat) (o : zaA) (price qty : Int) : Rs :=
 if zc9 (zbz s n) price qty ≠ 0 then bad s (zc9 (zbz s n) price qty)
 else if price = o.price ∧ qty ≤ o.left then ⟨{ s with books := s.books.set n (zcd o.id qty (zbA s n)) }, 0, [], zdu o.id qty (zbA s n)⟩
 else zbT { s with books := s.books.set n (zbu o.id (zbA s n)) } who n { o with price := price, left := qty } 0
set_option maxHeartbeats 8000000 in
theorem zjQ (W : World) (F : List zax) (x : DAd) (s : Dk) (bks : List BAd) (rows : List PRow) (N : Nat) (hD : DOK N s) (hO : OwnI s) (hN : N ≤ 10000) (hf : za6 s bks rows) (g : Nat) (who id0 : Int) (o : Sp) (outs : List OutR) (n : Nat) (od : zaA) (price qty : Int) (hn : n < s.books.length) (hw : 0 ≤ who ∧ who ≤ 8) (hbo : outs.length ≤ 900000) :
 zaB Tryz.prog W 100 [ptrV x.d, ptrV g, .int .i64 n, .agg od.enc.toArray, .int .i64 price, .int .i64 qty] (zap g who id0 o outs (zai x s bks rows F)) (zoA x g who id0 outs F (chgD s who n od price qty)) := by
 obtain ⟨bd, hb1, hb2, hb3⟩ := zod hf hn
 obtain ⟨R, hR⟩ := zih hb1
 have hself : bks.set n bd = bks := zcx hb1
 have hB : zbh bd.l := hD.bks _ (List.mem_of_getElem? hb3)
 have hp0 := hR bd
 rw [hself] at hp0
 refine zaB.perm ?_ (zcP hp0)
 refine zaB.dropTo ?_
 have hl := zfj hf
 have h4 := hD.few
 have hnb := hD.nbk
 have hix := zii hb1
 obtain ⟨_, hbn, hbm⟩ := zdm (s := s) (n := (n : Int)) hnb (by unfold zcz; simp; omega)
 have hbI := (zcp hD.rules).2.2.2.1 _ hbm
 have hCk := zhF W (zbz s n) price qty hbI
 have hrd : zaJ W (.blk bd.p 106 [bd.s.sl bd.l.length] :: bd.s.own bd.l.length 52 6 (bd.l.flatMap zaA.enc) :: zap g who id0 o outs (zbd x s (bks.map BAd.ptr) R rows F)) x.books.A s.books.length 1 (bks.map BAd.ptr) := zcO (c := x.books.c) (t := 48) (by unfold zap zbd; (repeat (first | exact mcs | apply mcm))) hl
 have hrb : zaJ W (.blk bd.p 106 [bd.s.sl bd.l.length] :: bd.s.own bd.l.length 52 6 (bd.l.flatMap zaA.enc) :: zap g who id0 o outs (zbd x s (bks.map BAd.ptr) R rows F)) x.bonds.A s.bonds.length 7 (s.bonds.flatMap za3.enc) := zaJ.enc (c := x.bonds.c) za3.enc_len za3.enc_one (by unfold zap zbd; (repeat (first | exact mcs | apply mcm))) rfl
 unfold chgD
 rw [hb2]
 generalize zbz s n = b at *
 by_cases hc : zc9 b price qty ≠ 0
 ·rw [if_pos hc]
  generalize zc9 b price qty = er at *
  refine zan Tryz.func100 rfl rfl Tryz.results100 Tryz.ntmps100 rfl rfl ?_
  refine zaU hrd rfl (fun hAi => ?_)
  have hA := hAi (by omega)
  refine zaU hrb rfl (fun hBi => ?_)
  have hBA := hBi (by omega)
  unfold zap zbd
  repeat' (first | apply zae | apply zaa | apply zaj | apply zad | apply zab hT; iterate 4 exact rfl | apply zaK; (iterate 5 exact rfl); intro g9 | (apply zaS hT; (iterate 8 exact rfl); (iterate 2 omega); first | exact hBA) | (apply zal; (iterate 5 exact rfl); first | exact zaY hT rfl rfl (hrb.mono (by intro c hc; unfold zap zbd at hc; revert c; exact fun c hc => by (repeat (first | exact hc | apply mcm)))) za3.enc_len rfl hbn rfl) | (apply zac; (iterate 7 exact rfl); exact (hCk.mono (by simp))) | (apply zal; (iterate 5 exact rfl); first | (apply zaC hT; exact rfl; exact rfl; (repeat (first | exact mcs | apply mcm )); exact rfl; exact rfl) ) | (apply zam; exact rfl; all_goals (intro hb; (try dsimp only at hb); (try simp only [hb]); (first | replace hb := zaD hb | replace hb := zaE hb ); (try omega))))
  all_goals try omega
  all_goals (apply ret1; exact rfl; exact ⟨zap g who id0 o outs (zai x s bks rows F), zem (show zbk _ (.blk bd.p 106 [bd.s.sl bd.l.length] :: bd.s.own bd.l.length 52 6 (bd.l.flatMap zaA.enc) :: zap g who id0 o outs (zbd x s (bks.map BAd.ptr) R rows F)) by (unfold zap zbd; (repeat (first | exact zar | (apply zay; · (repeat (first | exact sel0 | apply selS ))) | (apply za1; · (repeat (first | exact zaP | apply zaT ))) | apply zat)))) (zfx (zcP hp0).symm), rfl, x, o, bks, rows, outs, rfl, hf, fun h => absurd h hc⟩)
 ·rw [if_neg hc]
  have hc := Decidable.not_not.1 hc
  rw [hc] at hCk
  by_cases hs : price = od.price ∧ qty ≤ od.left
  ·rw [if_pos hs]
   have hLs := fun G => ziB W G bd.p bd.s.A bd.s.c bd.l od.id qty hB.le
   have hR2 := hR ⟨bd.p, bd.s, zcd od.id qty bd.l⟩
   have hptr := zfJ (b' := ⟨bd.p, bd.s, zcd od.id qty bd.l⟩) hb1 rfl
   have hfit : za6 { s with books := s.books.set n (zcd od.id qty bd.l) } (bks.set n ⟨bd.p, bd.s, zcd od.id qty bd.l⟩) rows := ⟨by rw [List.map_set, hf.1], hf.2⟩
   have hls : (s.books.set n (zcd od.id qty bd.l)).length = s.books.length := by simp
   have hcs : zb0 x { s with books := s.books.set n (zcd od.id qty bd.l) } = zb0 x s := by simp only [zb0, hls]
   generalize zcd od.id qty bd.l = l2 at *
   refine zan Tryz.func100 rfl rfl Tryz.results100 Tryz.ntmps100 rfl rfl ?_
   refine zaU hrd rfl (fun hAi => ?_)
   have hA := hAi (by omega)
   refine zaU hrb rfl (fun hBi => ?_)
   have hBA := hBi (by omega)
   unfold zap zbd
   repeat' (first | apply zae | apply zaa | apply zaj | apply zah | apply zad | apply zab hT; iterate 4 exact rfl | apply zaM [] [] hmix; decide +kernel | apply zaK; (iterate 5 exact rfl); intro g9 | (apply zaS hT; (iterate 8 exact rfl); (iterate 2 omega); first | exact hA | exact hBA) | (apply zal; (iterate 5 exact rfl); first | exact zbl hT rfl rfl (hrd.mono (by intro c hc; unfold zap zbd at hc; revert c; exact fun c hc => by (repeat (first | exact hc | apply mcm)))) rfl hix | exact zaY hT rfl rfl (hrb.mono (by intro c hc; unfold zap zbd at hc; revert c; exact fun c hc => by (repeat (first | exact hc | apply mcm)))) za3.enc_len rfl hbn rfl) | (apply zac; (iterate 7 exact rfl); exact (hCk.mono (by simp))) | (apply zaz; (iterate 7 exact rfl); exact (zaB.perm (hLs _) (by (repeat (first | exact List.Perm.refl _ | (apply zaX; · (repeat (first | exact sel0 | apply selS ))) )))); rintro _ _ ⟨rfl, rfl⟩) | (apply zal; (iterate 5 exact rfl); first | (apply zaC hT; exact rfl; exact rfl; (repeat (first | exact mcs | apply mcm )); exact rfl; exact rfl) ) | apply zag; iterate 2 exact rfl | (apply zav; exact rfl; all_goals (intro hb; (fail_if_success (change true = true at hb)); (fail_if_success (change false = false at hb)); (try dsimp only at hb); (try simp only [hb]); (first | replace hb := odt hb | replace hb := odf hb ); (try omega))) | (apply zam; exact rfl; all_goals (intro hb; (try dsimp only at hb); (try simp only [hb]); (first | replace hb := odt hb | replace hb := odf hb ); (try omega))))
   all_goals try omega
   all_goals
    apply ret1
    exact rfl
    refine ⟨zap g who id0 o outs (zai x { s with books := s.books.set n l2 } (bks.set n ⟨bd.p, bd.s, l2⟩) rows F), zem (show zbk _ (.blk bd.p 106 [bd.s.sl l2.length] :: bd.s.own l2.length 52 6 (l2.flatMap zaA.enc) :: zap g who id0 o outs (zbd x { s with books := s.books.set n l2 } ((bks.set n ⟨bd.p, bd.s, l2⟩).map BAd.ptr) R rows F)) from ?_) (zfx (zcP hR2).symm), rfl, x, o, _, rows, outs, rfl, hfit, fun _ => (List.append_nil _).symm⟩
    rw [hptr]
    unfold zap zbd
    rw [hcs, hls]
    (repeat (first | exact zar | (apply zay; · (repeat (first | exact sel0 | apply selS ))) | (apply za1; · (repeat (first | exact zaP | apply zaT ))) | apply zat))
  ·rw [if_neg hs]
   have hDr := fun G => ze7 W G bd.p bd.s.A bd.s.c bd.l od.id hB.le
   have hD2 := hD.setDrop n od.id
   have hO2 : OwnI { s with books := s.books.set n (zbu od.id (zbA s n)) } := hO.set (n := n) (m := zbu od.id (zbA s n)) rfl (fun y hy => hO.book _ y (zcC hy))
   rw [hb2] at hD2 hO2
   have hls : (s.books.set n (zbu od.id bd.l)).length = s.books.length := by simp
   have hcs : zb0 x { s with books := s.books.set n (zbu od.id bd.l) } = zb0 x s := by simp only [zb0, hls]
   have hfit : ∀ sp, za6 { s with books := s.books.set n (zbu od.id bd.l) } (bks.set n ⟨bd.p, sp, zbu od.id bd.l⟩) rows := fun sp => ⟨by rw [List.map_set, hf.1], hf.2⟩
   have hM := fun G sp => zaB.perm (zhJ W G x { s with books := s.books.set n (zbu od.id bd.l) } (bks.set n ⟨bd.p, sp, zbu od.id bd.l⟩) rows N hD2 hO2 hN (hfit sp) g who id0 o outs n { od with price := price, left := qty } 0 (by rw [hls]; exact hn) hw hbo) (zcP (hR ⟨bd.p, sp, zbu od.id bd.l⟩)).symm
   have hptr : ∀ sp, (bks.set n ⟨bd.p, sp, zbu od.id bd.l⟩).map BAd.ptr = bks.map BAd.ptr := fun sp => zfJ (b' := ⟨bd.p, sp, zbu od.id bd.l⟩) hb1 rfl
   simp only [hptr] at hM
   unfold zbd at hM
   simp only [hcs, hls] at hM
   generalize hmr : zbT { s with books := s.books.set n (zbu od.id bd.l) } who n { od with price := price, left := qty } 0 = r at *
   refine zan Tryz.func100 rfl rfl Tryz.results100 Tryz.ntmps100 rfl rfl ?_
   refine zaU hrd rfl (fun hAi => ?_)
   have hA := hAi (by omega)
   refine zaU hrb rfl (fun hBi => ?_)
   have hBA := hBi (by omega)
   unfold zap zbd
   repeat' (first | apply zae | apply zaa | apply zaj | apply zah | apply zad | apply zab hT; iterate 4 exact rfl | apply zaq; iterate 3 exact rfl | apply zaM [] [] hmix; decide +kernel | apply zaK; (iterate 5 exact rfl); intro g9 | (apply zaF hT; (iterate 6 exact rfl); (repeat (first | exact sel0 | apply selS )); (iterate 3 exact rfl); exact nle rfl) | (apply zaS hT; (iterate 8 exact rfl); (iterate 2 omega); first | exact hA | exact hBA) | (apply zal; (iterate 5 exact rfl); first | exact zbl hT rfl rfl (hrd.mono (by intro c hc; unfold zap zbd at hc; revert c; exact fun c hc => by (repeat (first | exact hc | apply mcm)))) rfl hix | exact zaY hT rfl rfl (hrb.mono (by intro c hc; unfold zap zbd at hc; revert c; exact fun c hc => by (repeat (first | exact hc | apply mcm)))) za3.enc_len rfl hbn rfl) | (apply zac; (iterate 7 exact rfl); exact (hCk.mono (by simp))) | (apply zaz; (iterate 7 exact rfl); exact (zaB.perm (hDr _) (by (repeat (first | exact List.Perm.refl _ | (apply zaX; · (repeat (first | exact sel0 | apply selS ))) )))); rintro _ _ ⟨rfl, A3, c3, rfl⟩) | (apply zaz; (iterate 7 exact rfl); exact (zaB.perm (hM _ ⟨A3, c3⟩) (by unfold zap; (repeat (first | exact List.Perm.refl _ | (apply zaX; · (repeat (first | exact sel0 | apply selS ))) | (apply za0; · (repeat (first | exact zaP | apply zaT ))))))); rintro _ _ ⟨rfl, y2, o2, bks2, rows2, os2, rfl, hf2, hok2⟩) | (apply zal; (iterate 5 exact rfl); first | (apply zaC hT; exact rfl; exact rfl; (repeat (first | exact mcs | apply mcm )); exact rfl; exact rfl) | (apply zaQ hT; exact rfl; exact rfl; (repeat (first | exact mcs )); exact rfl)) | apply zag; iterate 2 exact rfl | (apply zav; exact rfl; all_goals (intro hb; (fail_if_success (change true = true at hb)); (fail_if_success (change false = false at hb)); (try dsimp only at hb); (try simp only [hb]); (first | replace hb := odt hb | replace hb := odf hb ); (try omega))) | (apply zam; exact rfl; all_goals (intro hb; (try dsimp only at hb); (try simp only [hb]); (first | replace hb := odt hb | replace hb := odf hb ); (try omega))))
   all_goals try omega
   all_goals (apply ret1; exact rfl; exact ⟨zap g who id0 o2 os2 (zai (y2.at x.d) r.d bks2 rows2 F), by (unfold zap zai; (repeat (first | exact zar | (apply zay; · (repeat (first | exact sel0 ))) | (apply za1; · (repeat (first | exact zaP ))) | apply zat))), rfl, y2, o2, bks2, rows2, os2, rfl, hf2, hok2⟩)
theorem zm3 {N : Nat} {s : Dk} (hD : DOK N s) {who k : Int} (h : mayV s.parties who k = true) : 0 ≤ who ∧ who ≤ 7 := by
 have hr : zcK s.parties who ≠ 0 := by
  intro e
  unfold mayV at h
  rw [e] at h
  repeat' split at h
  all_goals exact absurd h (by decide)
 obtain ⟨h0, hlt, _⟩ := zda hr
 have := (zcp hD.rules).2.1
 omega
set_option maxHeartbeats 8000000 in
theorem zle (W : World) (F : List zax) (x : DAd) (s : Dk) (bks : List BAd) (rows : List PRow) (N : Nat) (hD : DOK N s) (hO : OwnI s) (hN : N ≤ 10000) (hf : za6 s bks rows) (g : Nat) (who id0 : Int) (o : Sp) (outs : List OutR) (m : MsgR) (hmw : MsgW m) (hw : 0 ≤ who ∧ who ≤ 8) (hbo : outs.length ≤ 900000) :
 zaB Tryz.prog W 96 [ptrV x.d, ptrV g, .agg m.enc.toArray] (zap g who id0 o outs (zai x s bks rows F)) (za7 x g who outs F (zcH s who m)) := by
 refine zaB.dropTo ?_
 have hor := hD.order
 have h8 := hD.few
 have hI := zee W x s m.f0
 have hS := zd7 W m.f1
 unfold zcH
 dsimp only
 cases hn : zcz s m.f0
 ·rw [hn] at hI
  rw [if_pos rfl]
  refine zan Tryz.func96 rfl rfl Tryz.results96 Tryz.ntmps96 rfl rfl ?_
  unfold zap zai
  repeat' (first | apply zae | apply zaa | apply zaj | apply zaf | apply zad | apply zab hT; iterate 4 exact rfl | apply zaM [] [] hmix; decide +kernel | apply zaK; (iterate 5 exact rfl); intro g5 | apply zaZ hT; (iterate 9 exact rfl); (iterate 2 omega) | (apply zac; (iterate 7 exact rfl); exact (hI.mono (zdZ (by (repeat (first | exact mcs | apply mcm )))))) | (apply zal; (iterate 5 exact rfl); first | (apply zaC hT; exact rfl; exact rfl; (repeat (first | exact mcs )); exact rfl; exact rfl) ) | apply zak; iterate 2 exact rfl)
  all_goals try omega
  all_goals first
   | (apply ret1; exact rfl; exact ⟨zap g who id0 o outs (zai x s bks rows F), by (unfold zap zai; (repeat (first | exact zar | (apply zay; · (repeat (first | exact sel0 | apply selS ))) | apply zat))), za7.bad' (by decide) hf⟩)
   | skip
 ·rw [hn] at hI
  rw [if_neg (by decide)]
  by_cases h2 : isB m.f1 = false ∨ m.f4 < 0 ∨ m.f4 > 4
  ·rw [if_pos h2]
   refine zan Tryz.func96 rfl rfl Tryz.results96 Tryz.ntmps96 rfl rfl ?_
   cases hs : isB m.f1
   ·rw [hs] at hS
    unfold zap zai
    repeat' (first | apply zae | apply zaa | apply zaj | apply zaf | apply zad | apply zab hT; iterate 4 exact rfl | apply zaq; iterate 3 exact rfl | apply zaM [] [] hmix; decide +kernel | apply zaK; (iterate 5 exact rfl); intro g5 | apply zaZ hT; (iterate 9 exact rfl); (iterate 2 omega) | (apply zac; (iterate 7 exact rfl); exact (hI.mono (zdZ (by (repeat (first | exact mcs | apply mcm )))))) | (apply zac; (iterate 7 exact rfl); exact (hS.mono (by simp))) | (apply zal; (iterate 5 exact rfl); first | (apply zaC hT; exact rfl; exact rfl; (repeat (first | exact mcs )); exact rfl; exact rfl) ) | apply zak; iterate 2 exact rfl | apply zag; iterate 2 exact rfl)
    all_goals try omega
    all_goals first
     | (apply ret1; exact rfl; exact ⟨zap g who id0 o outs (zai x s bks rows F), by (unfold zap zai; (repeat (first | exact zar | (apply zay; · (repeat (first | exact sel0 | apply selS ))) | apply zat))), za7.bad' (by decide) hf⟩)
     | skip
   ·rw [hs] at hS
    rw [hs] at h2
    have h2 : m.f4 < 0 ∨ m.f4 > 4 := by simpa using h2
    unfold zap zai
    repeat' (first | apply zae | apply zaa | apply zaj | apply zaf | apply zad | apply zab hT; iterate 4 exact rfl | apply zaq; iterate 3 exact rfl | apply zaM [] [] hmix; decide +kernel | apply zaK; (iterate 5 exact rfl); intro g5 | apply zaZ hT; (iterate 9 exact rfl); (iterate 2 omega) | (apply zac; (iterate 7 exact rfl); exact (hI.mono (zdZ (by (repeat (first | exact mcs | apply mcm )))))) | (apply zac; (iterate 7 exact rfl); exact (hS.mono (by simp))) | (apply zal; (iterate 5 exact rfl); first | (apply zaC hT; exact rfl; exact rfl; (repeat (first | exact mcs )); exact rfl; exact rfl) ) | apply zak; iterate 2 exact rfl | apply zag; iterate 2 exact rfl | (apply zav; exact rfl; all_goals (intro hb; (fail_if_success (change true = true at hb)); (fail_if_success (change false = false at hb)); (try dsimp only at hb); (try simp only [hb]); (first | replace hb := odt hb | replace hb := odf hb ); (try omega))) | (apply zam; exact rfl; all_goals (intro hb; (try dsimp only at hb); (try simp only [hb]); (first | replace hb := odt hb | replace hb := odf hb ); (try omega))))
    all_goals try omega
    all_goals first
     | (apply ret1; exact rfl; exact ⟨zap g who id0 o outs (zai x s bks rows F), by (unfold zap zai; (repeat (first | exact zar | (apply zay; · (repeat (first | exact sel0 | apply selS ))) | apply zat))), za7.bad' (by decide) hf⟩)
     | skip
  ·rw [if_neg h2]
   have hs : isB m.f1 = true := by cases h : isB m.f1 <;> simp_all
   have hhow : ¬ m.f4 < 0 ∧ ¬ m.f4 > 4 := by constructor <;> (intro h; exact h2 (by simp [h]))
   rw [hs] at hS
   obtain ⟨⟨n0, n1⟩, hbn, hbm⟩ := zdm hD.nbk hn
   have hbl := (List.getElem?_eq_some_iff.1 hbn).1
   have hbI := (zcp hD.rules).2.2.2.1 _ hbm
   have hFt := zmM W (zbz s m.f0) m.f4 m.f2 m.f3 hbI
   have hrb : zaJ W (zap g who id0 o outs (zai x s bks rows F)) x.bonds.A s.bonds.length 7 (s.bonds.flatMap za3.enc) := zaJ.enc (c := x.bonds.c) za3.enc_len za3.enc_one (by unfold zap zai; (repeat (first | exact mcs | apply mcm))) rfl
   generalize hbb : zbz s m.f0 = b at *
   refine zan Tryz.func96 rfl rfl Tryz.results96 Tryz.ntmps96 rfl rfl ?_
   refine zaU hrb rfl (fun hAi => ?_)
   have hA := hAi (by omega)
   by_cases hfe : zlK b m.f4 m.f2 m.f3 ≠ 0
   ·rw [if_pos hfe]
    generalize zlK b m.f4 m.f2 m.f3 = er at *
    unfold zap zai
    repeat' (first | apply zae | apply zaa | apply zaj | apply zah | apply zaf | apply zad | apply zab hT; iterate 4 exact rfl | apply zaM [] [] hmix; decide +kernel | apply zaK; (iterate 5 exact rfl); intro g5 | apply zaZ hT; (iterate 9 exact rfl); (iterate 2 omega) | (apply zac; (iterate 7 exact rfl); exact (hI.mono (zdZ (by (repeat (first | exact mcs | apply mcm )))))) | (apply zac; (iterate 7 exact rfl); exact (hS.mono (by simp))) | apply zaS hT; (iterate 8 exact rfl); (iterate 2 omega); exact hA | (apply zal; (iterate 5 exact rfl); exact zaY hT rfl rfl (hrb.mono (by (intro c hc; (repeat (first | exact hc | apply mcm ))))) za3.enc_len rfl hbn rfl) | (apply zac; (iterate 7 exact rfl); exact (hFt.mono (by simp))) | (apply zal; (iterate 5 exact rfl); first | (apply zaC hT; exact rfl; exact rfl; (repeat (first | exact mcs | apply mcm )); exact rfl; exact rfl) ) | apply zag; iterate 2 exact rfl | (apply zav; exact rfl; all_goals (intro hb; (fail_if_success (change true = true at hb)); (fail_if_success (change false = false at hb)); (try dsimp only at hb); (try simp only [hb]); (first | replace hb := odt hb | replace hb := odf hb ); (try omega))) | (apply zam; exact rfl; all_goals (intro hb; (try dsimp only at hb); (try simp only [hb]); (first | replace hb := odt hb | replace hb := odf hb | replace hb := zaD hb | replace hb := zaE hb ); (try omega))))
    all_goals try omega
    all_goals first
     | (apply ret1; exact rfl; exact ⟨zap g who id0 o outs (zai x s bks rows F), by (unfold zap zai; (repeat (first | exact zar | (apply zay; · (repeat (first | exact sel0 | apply selS ))) | apply zat))), za7.bad' hfe hf⟩)
     | skip
   ·rw [if_neg hfe]
    have hfe := Decidable.not_not.1 hfe
    rw [hfe] at hFt
    have hM := fun G => zhJ W G x s bks rows N hD hO hN hf g who id0 o outs m.f0.toNat ⟨s.order + 1, 0, who, m.f1, m.f2, m.f3⟩ m.f4 (by omega) hw hbo
    rw [show ((m.f0.toNat : Nat) : Int) = m.f0 by omega] at hM
    have hmo : (zbT s who m.f0.toNat ⟨s.order + 1, 0, who, m.f1, m.f2, m.f3⟩ m.f4).d.order = s.order := zeQ
    generalize zbT s who m.f0.toNat ⟨s.order + 1, 0, who, m.f1, m.f2, m.f3⟩ m.f4 = r at *
    by_cases hre : r.err = 0
    ·rw [if_pos hre]
     unfold zap zai
     repeat' (first | apply zae | apply zaa | apply zaj | apply zah | apply zaf | apply zad | apply zab hT; iterate 4 exact rfl | (apply zaN hT; (iterate 4 exact rfl); (iterate 2 (first | omega ))) | apply zaM [] [] hmix; decide +kernel | apply zaK; (iterate 5 exact rfl); intro g5 | apply zaZ hT; (iterate 9 exact rfl); (iterate 2 omega) | (apply zac; (iterate 7 exact rfl); exact (hI.mono (zdZ (by (repeat (first | exact mcs | apply mcm )))))) | (apply zac; (iterate 7 exact rfl); exact (hS.mono (by simp))) | apply zaS hT; (iterate 8 exact rfl); (iterate 2 omega); exact hA | (apply zal; (iterate 5 exact rfl); exact zaY hT rfl rfl (hrb.mono (by (intro c hc; (repeat (first | exact hc | apply mcm | apply mar))))) za3.enc_len rfl hbn rfl) | (apply zac; (iterate 7 exact rfl); exact (hFt.mono (by simp))) | apply zaO hT (cs := zaA.enc ⟨s.order + 1, 0, who, m.f1, m.f2, m.f3⟩); iterate 4 exact rfl | (apply zaz; (iterate 7 exact rfl); exact (zaB.perm (hM _) (by (repeat (first | exact List.Perm.refl _ | (apply zaX; · (repeat (first | exact sel0 | apply selS ))) | (apply za0; · (repeat (first | exact zaP | apply zaT ))))))); (rintro _ _ ⟨rfl, y2, o2, bks2, rows2, os2, rfl, hf2, hok2⟩; rw [hre])) | (apply zaF hT; (iterate 6 exact rfl); (repeat (first | exact sel0 | apply selS )); (iterate 3 exact rfl); exact nle rfl) | (apply zal; (iterate 5 exact rfl); first | (apply zaC hT; exact rfl; exact rfl; (repeat (first | exact mcs | apply mcm )); exact rfl; exact rfl) ) | apply zak; iterate 2 exact rfl | apply zag; iterate 2 exact rfl | (apply zav; exact rfl; all_goals (intro hb; (fail_if_success (change true = true at hb)); (fail_if_success (change false = false at hb)); (try dsimp only at hb); (try simp only [hb]); (first | replace hb := odt hb | replace hb := odf hb ); (try omega))) | (apply zam; exact rfl; all_goals (intro hb; (try dsimp only at hb); (try simp only [hb]); (first | replace hb := odt hb | replace hb := odf hb ); (try omega))))
     all_goals try omega
     all_goals (apply ret1; exact rfl; exact ⟨zap g who (r.d.order + 1) o2 os2 (zai (y2.at x.d) { r.d with order := r.d.order + 1 } bks2 rows2 F), by (unfold zap zai; (repeat (first | exact zar | (apply zay; · (repeat (first | exact sel0 | apply selS ))) | (apply za1; · (repeat (first | exact zaP ))) | apply zat))), by first | rfl | rw [hre], y2, o2, bks2, rows2, _, _, rfl, hf2, fun _ => ⟨rfl, hok2 hre⟩⟩)
    ·rw [if_neg hre]
     unfold zap zai
     repeat' (first | apply zae | apply zaa | apply zaj | apply zah | apply zaf | apply zad | apply zab hT; iterate 4 exact rfl | (apply zaN hT; (iterate 4 exact rfl); (iterate 2 (first | omega ))) | apply zaM [] [] hmix; decide +kernel | apply zaK; (iterate 5 exact rfl); intro g5 | apply zaZ hT; (iterate 9 exact rfl); (iterate 2 omega) | (apply zac; (iterate 7 exact rfl); exact (hI.mono (zdZ (by (repeat (first | exact mcs | apply mcm )))))) | (apply zac; (iterate 7 exact rfl); exact (hS.mono (by simp))) | apply zaS hT; (iterate 8 exact rfl); (iterate 2 omega); exact hA | (apply zal; (iterate 5 exact rfl); exact zaY hT rfl rfl (hrb.mono (by (intro c hc; (repeat (first | exact hc | apply mcm ))))) za3.enc_len rfl hbn rfl) | (apply zac; (iterate 7 exact rfl); exact (hFt.mono (by simp))) | apply zaO hT (cs := zaA.enc ⟨s.order + 1, 0, who, m.f1, m.f2, m.f3⟩); iterate 4 exact rfl | (apply zaz; (iterate 7 exact rfl); exact (zaB.perm (hM _) (by (repeat (first | exact List.Perm.refl _ | (apply zaX; · (repeat (first | exact sel0 | apply selS ))) | (apply za0; · (repeat (first | exact zaP | apply zaT ))))))); rintro _ _ ⟨rfl, y2, o2, bks2, rows2, os2, rfl, hf2, hok2⟩) | (apply zal; (iterate 5 exact rfl); first | (apply zaC hT; exact rfl; exact rfl; (repeat (first | exact mcs | apply mcm )); exact rfl; exact rfl) ) | apply zag; iterate 2 exact rfl | (apply zav; exact rfl; all_goals (intro hb; (fail_if_success (change true = true at hb)); (fail_if_success (change false = false at hb)); (try dsimp only at hb); (try simp only [hb]); (first | replace hb := odt hb | replace hb := odf hb ); (try omega))) | (apply zam; exact rfl; all_goals (intro hb; (try dsimp only at hb); (try simp only [hb]); (first | replace hb := odt hb | replace hb := odf hb ); (try omega))))
     all_goals try omega
     all_goals (apply ret1; exact rfl; exact ⟨zap g who id0 o2 os2 (zai (y2.at x.d) r.d bks2 rows2 F), by (unfold zap zai; (repeat (first | exact zar | (apply zay; · (repeat (first | exact sel0 ))) | (apply za1; · (repeat (first | exact zaP ))) | apply zat))), rfl, y2, o2, bks2, rows2, _, _, rfl, hf2, fun h => absurd h hre⟩)
theorem zi4 {α β : Type} (f : α → β) (p : β → Bool) : ∀ l : List α, za4 p (l.map f) = za4 (fun x => p (f x)) l
 | [] => rfl
 | x :: l => by
   rw [List.map_cons]
   unfold za4
   rw [zi4 f p l]
theorem zjR (W : World) (h : List zax) (A : Option Addr) (n c : Nat) (l : List BAd) (hn : l.length = n) (hr : zaJ W h A n 1 (l.map BAd.ptr)) (fn : FuncId) (cap : List Value) (p : BAd → Bool)
 (hf : ∀ x ∈ l, zaL Tryz.prog W fn ([ptrV x.p] ++ cap) h (.bool (p x))) (hb : n ≤ 4611686018427387903) :
 zaL Tryz.prog W 97 [.slice A n c, .func (.func fn) #[] cap.toArray] h (.int .i64 (za4 p l)) := by
 refine zaL.of (fun h' hs => ?_)
 have hr' := hr.mono hs
 refine zan Tryz.func97 rfl rfl Tryz.results97 Tryz.ntmps97 rfl rfl ?_
 refine zaU hr' rfl (fun hA => ?_)
 repeat' (first | apply zae | apply zaa | apply zaf | apply zad | apply zab hT; iterate 4 exact rfl)
 refine zbU (α := Nat) (E := fun k => [(0, .slice A n c), (1, .func (.func fn) #[] cap.toArray), (7, .int .i64 n), (8, .int .i64 k)]) (H := fun _ => h') (μ := fun k => n - k)
  (S := fun k => k ≤ n ∧ ∀ (j : Nat) y, j < k → l[j]? = some y → p y = false) 0 (J := []) ⟨Nat.zero_le _, fun j y hj => by omega⟩ ⟨rfl, rfl, rfl, rfl, trivial⟩ (List.Perm.refl _) ?_
 rintro k ⟨hk1, hk2⟩
 by_cases hlt : k < n
 ·obtain ⟨x, hx⟩ : ∃ x, l[k]? = some x := ⟨l[k]'(by omega), List.getElem?_eq_getElem (by omega)⟩
  have hx2 : (l.map BAd.ptr)[(k : Int).toNat * 1]? = some (ptrV x.p) := by simp [hx]; rfl
  have hfx := (hf x (List.mem_of_getElem? hx)).mono hs
  have hA' := hA (by omega)
  repeat' (first | apply zae | apply zaa | apply zaj | apply zah | apply zaf | apply zad | apply zab hT; iterate 4 exact rfl | (apply zaN hT; (iterate 4 exact rfl); (iterate 2 (first | omega ))) | apply zaS hT; (iterate 8 exact rfl); (iterate 2 omega); exact hA' | apply zal; (iterate 5 exact rfl); exact zbl hT rfl rfl hr' rfl hx2 | apply zac (hs := hfx); iterate 7 exact rfl | (apply zam; exact rfl; all_goals (intro hb; (try dsimp only at hb); (try simp only [hb]); (first | replace hb := odt hb | replace hb := odf hb | skip); (try omega))))
  ·exact zch (J := []) rfl (by rw [zdK hx hb hk2]) (List.Perm.refl _)
  ·have hpx := hb
   refine ⟨k + 1, [], by dsimp only; omega, ⟨by omega, fun j y hj hy => ?_⟩, ⟨rfl, rfl, rfl, rfl, trivial⟩, List.Perm.refl _⟩
   by_cases hjk : j < k
   ·exact hk2 j y hjk hy
   ·obtain rfl : j = k := by omega
    rw [hx] at hy; cases hy; exact hpx
 ·repeat' (first | apply zae | apply zaa | apply zaj | apply zas | apply zad | apply zab hT; iterate 4 exact rfl | (apply zam; exact rfl; all_goals (intro hb; (try dsimp only at hb); (try simp only [hb]); (first | replace hb := odt hb | replace hb := odf hb ); (try omega))))
  exact zch (J := []) rfl (by rw [zcc (fun (j : Nat) y hj => hk2 j y (by have := (List.getElem?_eq_some_iff.1 hj).1; omega) hj)]) (List.Perm.refl _)
theorem zoi (W : World) (h : List zax) (b : BAd) (g7 : Nat) (id : Int) (hl : b.l.length ≤ 1000000) (m0 : zax.blk g7 2 [.int .i64 id] ∈ h) (m1 : zax.blk b.p 106 [b.s.sl b.l.length] ∈ h) (m2 : b.s.own b.l.length 52 6 (b.l.flatMap zaA.enc) ∈ h) :
 zaL Tryz.prog W 98 ([ptrV b.p] ++ [.pointer (some ⟨g7, 0, none⟩)]) h (.bool (getO id b.l).isSome) := by
 refine zaL.ofD (fun h' hs => ?_)
 have n0 := hs _ m0
 have hG := (zj3 W b.p b.s.A b.s.c b.l id hl).mono (h' := h') (zbx (hs _ m1) (hs _ m2))
 rcases hg : getO id b.l with _ | od
 all_goals
  rw [hg] at hG
  refine zan Tryz.func98 rfl rfl Tryz.results98 Tryz.ntmps98 rfl rfl ?_
  repeat' (first | apply zae | apply zaa | apply zaj | apply zad | apply zab hT; iterate 4 exact rfl | apply zac (hs := hG); iterate 7 exact rfl | (apply zaI hT; (iterate 5 exact rfl); first | (fail_if_success (have q := g4)); intro g4) | (apply zaF hT; (iterate 6 exact rfl); (repeat (first | exact sel0 )); (iterate 3 exact rfl); exact nle rfl) | (apply zal; (iterate 5 exact rfl); first | (apply zaC hT; exact rfl; exact rfl; (repeat (first | exact n0 )); exact rfl; exact rfl) ))
  all_goals (apply ret1; exact rfl; exact ⟨rfl, by (repeat (first | exact zar | apply zat))⟩)
theorem zhK {g : Nat} {who id : Int} {o : Sp} {outs : List OutR} {x : DAd} {s : Dk} {bks : List BAd} {rows : List PRow} {F : List zax} {b : BAd} (hb : b ∈ bks) : ∀ c ∈ BAd.ck b, c ∈ zap g who id o outs (zai x s bks rows F) := fun c hc => by
 unfold zap zai
 iterate 20 (apply mcm)
 exact List.mem_append_left _ (List.mem_flatMap.2 ⟨b, hb, hc⟩)
theorem zi5 (W : World) (F : List zax) (x : DAd) (s : Dk) (bks : List BAd) (rows : List PRow) (g : Nat) (who id0 : Int) (o : Sp) (outs : List OutR) (n : Nat) (bd : BAd) (id : Int) (hb1 : bks[n]? = some bd) (hB : bd.l.length ≤ 1000000) :
 zaB Tryz.prog W 44 [ptrV bd.p, .int .i64 id] (zap g who id0 o outs (zai x s bks rows F)) (fun v h' => v = gotO (getO id bd.l) ∧ ∃ sp, h' = zap g who id0 o outs (zai x { s with books := s.books.set n (zbu id bd.l) } (bks.set n ⟨bd.p, sp, zbu id bd.l⟩) rows F)) := by
 obtain ⟨R, hR⟩ := zih hb1
 have hself : bks.set n bd = bks := zcx hb1
 have hp0 := hR bd
 rw [hself] at hp0
 refine (zaB.perm (ze7 W _ bd.p bd.s.A bd.s.c bd.l id hB) (zcP hp0)).conv ?_
 rintro v h' ⟨rfl, A, c, rfl⟩ w hw
 refine ⟨_, hw.perm ?_, rfl, ⟨A, c⟩, rfl⟩
 refine List.Perm.trans ?_ (zcP (hR ⟨bd.p, ⟨A, c⟩, zbu id bd.l⟩)).symm
 rw [zfJ (b' := ⟨bd.p, ⟨A, c⟩, zbu id bd.l⟩) hb1 rfl]
 have hls : (s.books.set n (zbu id bd.l)).length = s.books.length := by simp
 have hcs : zb0 x { s with books := s.books.set n (zbu id bd.l) } = zb0 x s := by simp only [zb0, hls]
 unfold zap zbd
 rw [hcs, hls]
 exact List.Perm.refl _
set_option maxHeartbeats 8000000 in
theorem zeT (W : World) (F : List zax) (x : DAd) (s : Dk) (bks : List BAd) (rows : List PRow) (N : Nat) (hD : DOK N s) (hO : OwnI s) (hN : N ≤ 10000) (hf : za6 s bks rows) (g : Nat) (who id0 : Int) (o : Sp) (outs : List OutR) (m : MsgR) (hk : m.kind = 6 ∨ m.kind = 7 ∨ m.kind = 8) (hmw : MsgW m) (hw : 0 ≤ who ∧ who ≤ 8) (hbo : outs.length ≤ 900000) :
 zaB Tryz.prog W 61 [ptrV x.d, ptrV g, .agg m.enc.toArray] (zap g who id0 o outs (zai x s bks rows F)) (za7 x g who outs F (if m.kind = 6 then zcH s who m else zbE s who m.kind m.f0 m.f1 m.f2)) := by
 refine zaB.dropTo ?_
 have h8 := hD.few
 have hl := zfj hf
 by_cases hk6 : m.kind = 6
 ·rw [if_pos hk6]
  have hC := fun G => zle W G x s bks rows N hD hO hN hf g who id0 o outs m hmw hw hbo
  generalize zcH s who m = r at *
  refine zan Tryz.func61 rfl rfl Tryz.results61 Tryz.ntmps61 rfl rfl ?_
  skip
  unfold zap zai
  repeat' (first | apply zae | apply zaa | apply zaj | apply zad | apply zab hT; iterate 4 exact rfl | apply zaK; (iterate 5 exact rfl); intro g5 | (apply zaz; (iterate 7 exact rfl); exact (zaB.perm (hC _) (by (repeat (first | exact List.Perm.refl _ | (apply zaX; · (repeat (first | exact sel0 | apply selS ))) | (apply za0; · (repeat (first | exact zaP | apply zaT ))))))); rintro _ _ ⟨rfl, y2, o2, bks2, rows2, id2, os2, rfl, hf2, hok2⟩) | (apply zal; (iterate 5 exact rfl); first | (apply zaC hT; exact rfl; exact rfl; (repeat (first | exact mcs )); exact rfl; exact rfl) | (apply zaQ hT; exact rfl; exact rfl; (repeat (first | exact mcs )); exact rfl)) | (apply zam; exact rfl; all_goals (intro hb; (try dsimp only at hb); (try simp only [hb]); (first | replace hb := odt hb | replace hb := odf hb ); (try omega))))
  all_goals try omega
  all_goals (apply ret1; exact rfl; exact ⟨zap g who id2 o2 os2 (zai (y2.at x.d) r.d bks2 rows2 F), by (unfold zap zai; (repeat (first | exact zar | (apply zay; · (repeat (first | exact sel0 ))) | (apply za1; · (repeat (first | exact zaP ))) | apply zat))), rfl, y2, o2, bks2, rows2, id2, os2, rfl, hf2, hok2⟩)
 ·rw [if_neg hk6]
  have hIx := fun h g7 hr hf => zjR W h x.books.A s.books.length x.books.c bks hl hr 98 [.pointer (some ⟨g7, 0, none⟩)] (fun b => (getO m.f0 b.l).isSome) hf (by omega)
  have hfind : za4 (fun b : BAd => (getO m.f0 b.l).isSome) bks = zc2 s.books m.f0 := by
   unfold zc2
   rw [← hf.1]
   exact (zi4 BAd.l (fun l => (getO m.f0 l).isSome) bks).symm
  rw [hfind] at hIx
  have hBb : ∀ b ∈ bks, zbh b.l := fun b hb => hD.bks b.l (by rw [← hf.1]; exact List.mem_map.2 ⟨b, hb, rfl⟩)
  have hrd0 : zaJ W (zap g who id0 o outs (zai x s bks rows F)) x.books.A s.books.length 1 (bks.map BAd.ptr) := zcO (c := x.books.c) (t := 48) (by unfold zap zai; (repeat (first | exact mcs | apply mcm))) hl
  have hrdD : zaJ W (zai x s bks rows F) x.books.A s.books.length 1 (bks.map BAd.ptr) := zcO (c := x.books.c) (t := 48) (by unfold zai; (repeat (first | exact mcs | apply mcm))) hl
  have hcl : ∀ h g7, zax.blk g7 2 [.int .i64 m.f0] ∈ h → (∀ c ∈ zap g who id0 o outs (zai x s bks rows F), c ∈ h) → ∀ b ∈ bks, zaL Tryz.prog W 98 ([ptrV b.p] ++ [.pointer (some ⟨g7, 0, none⟩)]) h (.bool (getO m.f0 b.l).isSome) := fun h g7 m0 hh b hb =>
   zoi W h b g7 m.f0 (hBb b hb).le m0 (hh _ (zhK hb _ (by unfold BAd.ck; exact mem0))) (hh _ (zhK hb _ (by unfold BAd.ck; exact mem1)))
  unfold zbE
  dsimp only
  by_cases hn : zc2 s.books m.f0 < 0
  ·rw [if_pos hn]
   generalize zc2 s.books m.f0 = fb at *
   refine zan Tryz.func61 rfl rfl Tryz.results61 Tryz.ntmps61 rfl rfl ?_
   skip
   unfold zap zai
   repeat' (first | apply zae | apply zaa | apply zaj | apply zah | apply zad | apply zab hT; iterate 4 exact rfl | apply zaK; (iterate 5 exact rfl); intro g5 | (apply zaI hT; (iterate 5 exact rfl); first | (fail_if_success (have q := g7)); intro g7) | (apply zaF hT; (iterate 6 exact rfl); (repeat (first | exact sel0 )); (iterate 3 exact rfl); exact nle rfl) | (apply zaZ hT; (iterate 9 exact rfl); (iterate 2 omega)) | (apply zac; (iterate 7 exact rfl); exact (hIx _ _ (hrd0.mono (by (intro c hc; (repeat (first | exact hc | apply mcm ))))) (hcl _ _ (by (repeat (first | exact mcs ))) (by (intro c hc; (repeat (first | exact hc | apply mcm ))))))) | (apply zal; (iterate 5 exact rfl); first | (apply zaC hT; exact rfl; exact rfl; (repeat (first | exact mcs | apply mcm )); exact rfl; exact rfl) ) | (apply zam; exact rfl; all_goals (intro hb; (try dsimp only at hb); (try simp only [hb]); (first | replace hb := odt hb | replace hb := odf hb ); (try omega))))
   all_goals try omega
   all_goals (apply ret1; exact rfl; exact ⟨zap g who id0 o outs (zai x s bks rows F), by (unfold zap zai; (repeat (first | exact zar | (apply zay; · (repeat (first | exact sel0 | apply selS ))) | (apply za1; · (repeat (first | exact zaP | apply zaT ))) | apply zat))), za7.bad' (by decide) hf⟩)
  ·rw [if_neg hn]
   obtain ⟨n, l, hfn, hbl, hsome⟩ := zkf hn
   have hnl := (List.getElem?_eq_some_iff.1 hbl).1
   obtain ⟨bd, hb1, hb2, hb3⟩ := zod hf hnl
   have hll : l = bd.l := by rw [hbl] at hb3; exact Option.some.inj hb3
   subst hll
   rw [hfn] at hIx ⊢
   rw [Int.toNat_natCast, hb2]
   obtain ⟨od, hgo⟩ := Option.isSome_iff_exists.1 hsome
   rw [hgo]
   dsimp only
   have hod := zjK hgo
   have hB := hBb bd (List.mem_of_getElem? hb1)
   have hix := zii hb1
   have hG0 := zj3 W bd.p bd.s.A bd.s.c bd.l m.f0 hB.le
   rw [hgo] at hG0
   have hG : zaL Tryz.prog W 99 [.pointer (some ⟨bd.p, 0, none⟩), .int .i64 m.f0] (zap g who id0 o outs (zai x s bks rows F)) (gotO (some od)) := hG0.mono (zbx (zhK (List.mem_of_getElem? hb1) _ (by unfold BAd.ck; exact mem0)) (zhK (List.mem_of_getElem? hb1) _ (by unfold BAd.ck; exact mem1)))
   by_cases how : od.owner ≠ who
   ·rw [if_pos how]
    refine zan Tryz.func61 rfl rfl Tryz.results61 Tryz.ntmps61 rfl rfl ?_
    (refine zaU hrd0 rfl (fun hAi => ?_); have hA := hAi (by omega))
    unfold zap zai
    repeat' (first | apply zae | apply zaa | apply zaj | apply zah | apply zad | apply zab hT; iterate 4 exact rfl | apply zaM [99] [] hmix; decide +kernel | apply zaK; (iterate 5 exact rfl); intro g5 | (apply zaI hT; (iterate 5 exact rfl); first | (fail_if_success (have q := g7)); intro g7 | (fail_if_success (have q := g9)); intro g9) | (apply zaF hT; (iterate 6 exact rfl); (repeat (first | exact sel0 )); (iterate 3 exact rfl); exact nle rfl) | (apply zaZ hT; (iterate 9 exact rfl); (iterate 2 omega)) | (apply zac; (iterate 7 exact rfl); exact (hIx _ _ (hrd0.mono (by (intro c hc; (repeat (first | exact hc | apply mcm ))))) (hcl _ _ (by (repeat (first | exact mcs | apply mcm | apply mar))) (by (intro c hc; (repeat (first | exact hc | apply mcm ))))))) | (apply zaS hT; (iterate 8 exact rfl); (iterate 2 omega); exact hA) | (apply zal; (iterate 5 exact rfl); exact zbl hT rfl rfl (hrdD.mono (by (intro c hc; (repeat (first | exact hc | apply mcm ))))) rfl hix) | (apply zac; (iterate 7 exact rfl); exact (hG.mono (by (intro c hc; (repeat (first | exact hc | apply mcm )))))) | (apply zal; (iterate 5 exact rfl); first | (apply zaC hT; exact rfl; exact rfl; (repeat (first | exact mcs | apply mcm )); exact rfl; exact rfl) ) | (apply zag; iterate 2 exact rfl) | (apply zam; exact rfl; all_goals (intro hb; (try dsimp only at hb); (try simp only [hb]); (first | replace hb := odt hb | replace hb := odf hb | replace hb := zaD hb | replace hb := zaE hb ); (try omega))))
    all_goals try omega
    all_goals (apply ret1; exact rfl; exact ⟨zap g who id0 o outs (zai x s bks rows F), by (unfold zap zai; (repeat (first | exact zar | (apply zay; · (repeat (first | exact sel0 | apply selS ))) | (apply za1; · (repeat (first | exact zaP | apply zaT ))) | apply zat))), za7.bad' (by decide) hf⟩)
   ·rw [if_neg how]
    have how := Decidable.not_not.1 how
    by_cases hk8 : m.kind = 8
    ·rw [if_pos hk8]
     have hCh := fun G => zjQ W G x s bks rows N hD hO hN hf g who m.f0 o outs n od m.f1 m.f2 hnl hw hbo
     have hRr : ∀ R : Rs, R = (if zc9 (zbz s n) m.f1 m.f2 ≠ 0 then bad s (zc9 (zbz s n) m.f1 m.f2)
      else if m.f1 = od.price ∧ m.f2 ≤ od.left then ⟨{ s with books := s.books.set n (zcd od.id m.f2 bd.l) }, m.f0, [], zdu od.id m.f2 bd.l⟩
      else { zbT { s with books := s.books.set n (zbu od.id bd.l) } who n { od with price := m.f1, left := m.f2 } 0 with id := m.f0 }) →
      R.d = (chgD s who n od m.f1 m.f2).d ∧ R.err = (chgD s who n od m.f1 m.f2).err ∧ R.outs = (chgD s who n od m.f1 m.f2).outs ∧ (R.err = 0 → R.id = m.f0) := by
      rintro R rfl
      unfold chgD
      rw [hb2]
      by_cases h1 : zc9 (zbz s n) m.f1 m.f2 ≠ 0
      ·rw [if_pos h1, if_pos h1]; exact ⟨rfl, rfl, rfl, fun h => absurd h h1⟩
      ·rw [if_neg h1, if_neg h1]
       by_cases h2 : m.f1 = od.price ∧ m.f2 ≤ od.left
       ·rw [if_pos h2, if_pos h2]; exact ⟨rfl, rfl, rfl, fun _ => rfl⟩
       ·rw [if_neg h2, if_neg h2]; exact ⟨rfl, rfl, rfl, fun _ => rfl⟩
     generalize hRe : (if zc9 (zbz s n) m.f1 m.f2 ≠ 0 then bad s (zc9 (zbz s n) m.f1 m.f2)
      else if m.f1 = od.price ∧ m.f2 ≤ od.left then ⟨{ s with books := s.books.set n (zcd od.id m.f2 bd.l) }, m.f0, [], zdu od.id m.f2 bd.l⟩
      else { zbT { s with books := s.books.set n (zbu od.id bd.l) } who n { od with price := m.f1, left := m.f2 } 0 with id := m.f0 } : Rs) = R at *
     obtain ⟨e1, e2, e3, e4⟩ := hRr R rfl
     unfold za7
     rw [e1, e2, e3]
     rw [e2] at e4
     generalize chgD s who n od m.f1 m.f2 = r at *
     refine zan Tryz.func61 rfl rfl Tryz.results61 Tryz.ntmps61 rfl rfl ?_
     (refine zaU hrd0 rfl (fun hAi => ?_); have hA := hAi (by omega))
     unfold zap zai
     repeat' (first | apply zae | apply zaa | apply zaj | apply zah | apply zad | apply zab hT; iterate 4 exact rfl | apply zaM [99] [] hmix; decide +kernel | apply zaK; (iterate 5 exact rfl); intro g5 | (apply zaI hT; (iterate 5 exact rfl); first | (fail_if_success (have q := g7)); intro g7 | (fail_if_success (have q := g9)); intro g9) | (apply zaF hT; (iterate 6 exact rfl); (repeat (first | exact sel0 | apply selS )); (iterate 3 exact rfl); exact nle rfl) | (apply zaZ hT; (iterate 9 exact rfl); (iterate 2 omega)) | (apply zac; (iterate 7 exact rfl); exact (hIx _ _ (hrd0.mono (by (intro c hc; (repeat (first | exact hc | apply mcm ))))) (hcl _ _ (by (repeat (first | exact mcs | apply mcm | apply mar))) (by (intro c hc; (repeat (first | exact hc | apply mcm ))))))) | (apply zaS hT; (iterate 8 exact rfl); (iterate 2 omega); exact hA) | (apply zal; (iterate 5 exact rfl); exact zbl hT rfl rfl (hrdD.mono (by (intro c hc; (repeat (first | exact hc | apply mcm ))))) rfl hix) | (apply zac; (iterate 7 exact rfl); exact (hG.mono (by (intro c hc; (repeat (first | exact hc | apply mcm )))))) | (apply zaz; (iterate 7 exact rfl); exact (zaB.perm (hCh _) (by (repeat (first | exact List.Perm.refl _ | (apply zaX; · (repeat (first | exact sel0 | apply selS ))) | (apply za0; · (repeat (first | exact zaP | apply zaT ))))))); rintro _ _ ⟨rfl, y2, o2, bks2, rows2, os2, rfl, hf2, hok2⟩) | (apply zal; (iterate 5 exact rfl); first | (apply zaC hT; exact rfl; exact rfl; (repeat (first | exact mcs | apply mcm )); exact rfl; exact rfl) | (apply zaQ hT; exact rfl; exact rfl; (repeat (first | exact mcs | apply mcm )); exact rfl)) | (apply zag; iterate 2 exact rfl) | (apply zam; exact rfl; all_goals (intro hb; (try dsimp only at hb); (try simp only [hb]); (first | replace hb := odt hb | replace hb := odf hb | replace hb := zaD hb | replace hb := zaE hb ); (try omega))))
     all_goals try omega
     all_goals (apply ret1; exact rfl; exact ⟨zap g who m.f0 o2 os2 (zai (y2.at x.d) r.d bks2 rows2 F), by (unfold zap zai; (repeat (first | exact zar | (apply zay; · (repeat (first | exact sel0 ))) | (apply za1; · (repeat (first | exact zaP ))) | apply zat))), rfl, y2, o2, bks2, rows2, m.f0, os2, rfl, hf2, fun h => ⟨(e4 h).symm, hok2 h⟩⟩)
    ·rw [if_neg hk8]
     have hDr := fun G => zi5 W G x s bks rows g who m.f0 o outs n bd m.f0 hb1 hB.le
     have hfit : ∀ sp, za6 { s with books := s.books.set n (zbu m.f0 bd.l) } (bks.set n ⟨bd.p, sp, zbu m.f0 bd.l⟩) rows := fun sp => ⟨by rw [List.map_set, hf.1], hf.2⟩
     have hbo2 : outs.length ≤ 1000000 := by omega
     generalize zbu m.f0 bd.l = l2 at *
     refine zan Tryz.func61 rfl rfl Tryz.results61 Tryz.ntmps61 rfl rfl ?_
     (refine zaU hrd0 rfl (fun hAi => ?_); have hA := hAi (by omega))
     unfold zap zai
     repeat' (first | apply zae | apply zaa | apply zaj | apply zah | apply zad | apply zab hT; iterate 4 exact rfl | apply zaM [99] [] hmix; decide +kernel | apply zaK; (iterate 5 exact rfl); intro g5 | (apply zaI hT; (iterate 5 exact rfl); first | (fail_if_success (have q := g7)); intro g7 | (fail_if_success (have q := g9)); intro g9) | (apply zaF hT; (iterate 6 exact rfl); (repeat (first | exact sel0 | apply selS )); (iterate 3 exact rfl); exact nle rfl) | (apply zaZ hT; (iterate 9 exact rfl); (iterate 2 omega)) | (apply zac; (iterate 7 exact rfl); exact (hIx _ _ (hrd0.mono (by (intro c hc; (repeat (first | exact hc | apply mcm ))))) (hcl _ _ (by (repeat (first | exact mcs | apply mcm | apply mar))) (by (intro c hc; (repeat (first | exact hc | apply mcm ))))))) | (apply zaS hT; (iterate 8 exact rfl); (iterate 2 omega); exact hA) | (apply zal; (iterate 5 exact rfl); exact zbl hT rfl rfl (hrdD.mono (by (intro c hc; (repeat (first | exact hc | apply mcm | apply mar))))) rfl hix) | (apply zac; (iterate 7 exact rfl); exact (hG.mono (by (intro c hc; (repeat (first | exact hc | apply mcm )))))) | (apply zaz; (iterate 7 exact rfl); exact (zaB.perm (hDr _) (by (repeat (first | exact List.Perm.refl _ | (apply zaX; · (repeat (first | exact sel0 | apply selS ))) | (apply za0; · (repeat (first | exact zaP | apply zaT ))))))); rintro _ _ ⟨rfl, sp, rfl⟩) | (apply zao (cs := [.int .i64 m.f0, .int .i64 od.left]) hT; (iterate 12 exact rfl); intro g83) | (apply zaz; (iterate 7 exact rfl); exact (zbZ W _ g who m.f0 o outs _ (some ⟨g83, 0, none⟩) 2 who 21 [m.f0, od.left] (by (repeat (first | exact List.Perm.refl _ | (apply zaX; · (repeat (first | exact sel0 | apply selS ))) ))) (by (repeat (first | exact mcs ))) (Nat.le_of_ble_eq_true rfl) hbo2); rintro _ _ ⟨rfl, o2, rfl⟩) | (apply zal; (iterate 5 exact rfl); first | (apply zaC hT; exact rfl; exact rfl; (repeat (first | exact mcs | apply mcm | apply mar)); exact rfl; exact rfl) ) | (apply zag; iterate 2 exact rfl) | (apply zam; exact rfl; all_goals (intro hb; (try dsimp only at hb); (try simp only [hb]); (first | replace hb := odt hb | replace hb := odf hb | replace hb := zaD hb | replace hb := zaE hb ); (try omega))))
     all_goals try omega
     all_goals (apply ret1; exact rfl; exact ⟨zap g who m.f0 o2 (outs ++ [outM who 21 [m.f0, od.left]]) (zai (x.at x.d) { s with books := s.books.set n l2 } (bks.set n ⟨bd.p, sp, l2⟩) rows F), by (unfold zap zai; (repeat (first | exact zar | (apply zay; · (repeat (first | exact sel0 | apply selS ))) | (apply za1; · (repeat (first | exact zaP | apply zaT ))) | apply zat))), za7.ok' (hfit sp)⟩)
set_option maxHeartbeats 2000000 in
theorem zlf (W : World) (F : List zax) (x : DAd) (s : Dk) (bks : List BAd) (rows : List PRow) (hf : za6 s bks rows) (hup : upA s.asks) (hupq : upQ s.quotes) (ha : s.asks.length ≤ 1000000) (hq : s.quotes.length ≤ 1000000) (g : Nat) (who id0 : Int) (o : Sp) (outs : List OutR) (m : MsgR) (hk : m.kind = 11) :
 zaB Tryz.prog W 62 [ptrV x.d, ptrV g, .agg m.enc.toArray] (zap g who id0 o outs (zai x s bks rows F)) (za7 x g who outs F (zdl false s who m.f0)) := by
 refine zaB.dropTo ?_
 have hR := fun G => zmQ W G x s bks rows g who id0 m.f0 o outs hf hup hupq ha hq
 generalize zdl false s who m.f0 = r at *
 unfold zap zai
 refine zan Tryz.func62 rfl rfl Tryz.results62 Tryz.ntmps62 rfl rfl ?_
 repeat' (first | apply zae | apply zaa | apply zaj | apply zad | apply zab hT; iterate 4 exact rfl | apply zaK; (iterate 5 exact rfl); intro g5 | apply zaZ hT; (iterate 9 exact rfl); (iterate 2 omega) | (apply zaz; (iterate 7 exact rfl); exact (zaB.perm (hR _) (by (repeat (first | exact List.Perm.refl _ | (apply zaX; · (repeat (first | exact sel0 | apply selS ))) | (apply za0; · (repeat (first | exact zaP | apply zaT ))))))); rintro _ _ ⟨rfl, y2, o2, bks2, rows2, id2, os2, rfl, hf2, hok2⟩) | (apply zal; (iterate 5 exact rfl); first | (apply zaC hT; exact rfl; exact rfl; (repeat (first | exact mcs )); exact rfl; exact rfl) ) | (apply zam; exact rfl; all_goals (intro hb; (try dsimp only at hb); (try simp only [hb]); (first | replace hb := odt hb | replace hb := odf hb ); (try omega))))
 all_goals try omega
 all_goals (apply ret1; exact rfl; exact ⟨zap g who id2 o2 os2 (zai (y2.at x.d) r.d bks2 rows2 F), by (unfold zap zai; (repeat (first | exact zar | (apply zay; · (repeat (first | exact sel0 ))) | (apply za1; · (repeat (first | exact zaP ))) | apply zat))), rfl, y2, o2, bks2, rows2, id2, os2, rfl, hf2, hok2⟩)
set_option maxHeartbeats 16000000 in
theorem zm4 (W : World) (F : List zax) (x : DAd) (s : Dk) (bks : List BAd) (rows : List PRow) (N : Nat) (hD : DOK N s) (hO : OwnI s) (hN : N ≤ 10000) (hf : za6 s bks rows) (g : Nat) (who id0 : Int) (o : Sp) (outs : List OutR) (m : MsgR) (hmw : MsgW m) (hbo : outs.length ≤ 900000) :
 zaB Tryz.prog W 39 [ptrV x.d, ptrV g, .agg m.enc.toArray] (zap g who id0 o outs (zai x s bks rows F)) (za7 x g who outs F (zdR false s who m)) := by
 refine zaB.dropTo ?_
 have hla : s.asks.length ≤ 1000000 := by have := hD.na; omega
 have hlq : s.quotes.length ≤ 1000000 := by have := hD.nq; omega
 have hld : s.due.length ≤ 1000000 := by have := hD.nd; omega
 have hbo2 : outs.length ≤ 1000000 := by omega
 have hAk := zmB W m.kind
 have hIs := zpJ W m
 have hMy := zob W x.f x.fparties.A x.fparties.c (x.used.sl s.parties.length) s.parties who m.kind
 cases h1 : zhq m.kind
 ·have e : zdR false s who m = bad s 5 := by unfold zdR; rw [if_pos (.inl h1)]
  rw [e]
  rw [h1] at hAk
  unfold zap zai
  refine zan Tryz.func39 rfl rfl Tryz.results39 Tryz.ntmps39 rfl rfl ?_
  repeat' (first | apply zae | apply zaa | apply zaj | apply zad | apply zab hT; iterate 4 exact rfl | apply zaq; iterate 3 exact rfl | apply zaM [58, 59, 60] [] hmix; decide +kernel | apply zaK; (iterate 5 exact rfl); intro g5 | (apply zac; (iterate 7 exact rfl); exact (hAk.mono (by simp))) | (apply zal; (iterate 5 exact rfl); first | (apply zaC hT; exact rfl; exact rfl; (repeat (first | exact mcs )); exact rfl; exact rfl) ) | apply zak; iterate 2 exact rfl)
  all_goals try omega
  all_goals (apply ret1; exact rfl; exact ⟨zap g who id0 o outs (zai x s bks rows F), by (unfold zap zai; (repeat (first | exact zar | (apply zay; · (repeat (first | exact sel0 | apply selS ))) | apply zat))), za7.bad' (by decide) hf⟩)
 ·rw [h1] at hAk
  cases h2 : zlJ m
  ·have e : zdR false s who m = bad s 5 := by unfold zdR; rw [if_pos (.inr (.inl h2))]
   rw [e]
   rw [h2] at hIs
   unfold zap zai
   refine zan Tryz.func39 rfl rfl Tryz.results39 Tryz.ntmps39 rfl rfl ?_
   repeat' (first | apply zae | apply zaa | apply zaj | apply zad | apply zab hT; iterate 4 exact rfl | apply zaq; iterate 3 exact rfl | apply zaM [58, 59, 60] [] hmix; decide +kernel | apply zaK; (iterate 5 exact rfl); intro g5 | (apply zac; (iterate 7 exact rfl); exact (hAk.mono (by simp))) | (apply zac; (iterate 7 exact rfl); exact (hIs.mono (by simp))) | (apply zal; (iterate 5 exact rfl); first | (apply zaC hT; exact rfl; exact rfl; (repeat (first | exact mcs )); exact rfl; exact rfl) | (apply zaQ hT; exact rfl; exact rfl; (repeat (first | exact mcs )); exact rfl)) | apply zak; iterate 2 exact rfl)
   all_goals try omega
   all_goals (apply ret1; exact rfl; exact ⟨zap g who id0 o outs (zai x s bks rows F), by (unfold zap zai; (repeat (first | exact zar | (apply zay; · (repeat (first | exact sel0 | apply selS ))) | apply zat))), za7.bad' (by decide) hf⟩)
  ·rw [h2] at hIs
   cases h3 : mayV s.parties who m.kind
   ·have e : zdR false s who m = bad s 5 := by unfold zdR; rw [if_pos (.inr (.inr h3))]
    rw [e]
    rw [h3] at hMy
    unfold zap zai
    refine zan Tryz.func39 rfl rfl Tryz.results39 Tryz.ntmps39 rfl rfl ?_
    repeat' (first | apply zae | apply zaa | apply zaj | apply zad | apply zab hT; iterate 4 exact rfl | apply zaM [58, 59, 60] [] hmix; decide +kernel | apply zaK; (iterate 5 exact rfl); intro g5 | (apply zac; (iterate 7 exact rfl); exact (hAk.mono (by simp))) | (apply zac; (iterate 7 exact rfl); exact (hIs.mono (by simp))) | (apply zac; (iterate 7 exact rfl); exact (hMy.mono (zbx (by (repeat (first | exact mcs | apply mcm ))) (by (repeat (first | exact mcs | apply mcm )))))) | (apply zal; (iterate 5 exact rfl); first | (apply zaC hT; exact rfl; exact rfl; (repeat (first | exact mcs | apply mcm )); exact rfl; exact rfl) | (apply zaQ hT; exact rfl; exact rfl; (repeat (first | exact mcs )); exact rfl)) | apply zak; iterate 2 exact rfl)
    all_goals try omega
    all_goals (apply ret1; exact rfl; exact ⟨zap g who id0 o outs (zai x s bks rows F), by (unfold zap zai; (repeat (first | exact zar | (apply zay; · (repeat (first | exact sel0 | apply selS ))) | apply zat))), za7.bad' (by decide) hf⟩)
   ·rw [h3] at hMy
    have hw := zm3 hD h3
    have hc : ¬ (zhq m.kind = false ∨ zlJ m = false ∨ mayV s.parties who m.kind = false) := by rw [h1, h2, h3]; decide
    unfold zdR
    rw [if_neg hc]
    have hk := zck h1
    clear h1 h2 h3 hc
    have hks : m.kind = 6 ∨ m.kind = 7 ∨ m.kind = 8 ∨ m.kind = 9 ∨ m.kind = 10 ∨ m.kind = 11 ∨ m.kind = 12 ∨ m.kind = 13 ∨ m.kind = 14 ∨ m.kind = 15 ∨ m.kind = 16 ∨ m.kind = 17 := by omega
    rcases m with ⟨kd, f0, f1, f2, f3, f4, f5⟩
    dsimp only at *
    rcases hks with rfl | rfl | rfl | rfl | rfl | rfl | rfl | rfl | rfl | rfl | rfl | rfl
    ·rw [if_pos rfl]
     have hR := fun G => zeT W G x s bks rows N hD hO hN hf g who id0 o outs ⟨6, f0, f1, f2, f3, f4, f5⟩ (.inl rfl) hmw ⟨hw.1, by omega⟩ hbo
     try dsimp only at hR
     simp only [if_true] at hR
     generalize zcH s who ⟨6, f0, f1, f2, f3, f4, f5⟩ = r at *
     unfold zap zai
     refine zan Tryz.func39 rfl rfl Tryz.results39 Tryz.ntmps39 rfl rfl ?_
     repeat' (first | apply zae | apply zaa | apply zaj | apply zah | apply zaf | apply zad | apply zab hT; iterate 4 exact rfl | apply zaM [58, 59, 60] [] hmix; decide +kernel | apply zaK; (iterate 5 exact rfl); intro g5 | (apply zac; (iterate 7 exact rfl); exact (hAk.mono (by simp))) | (apply zac; (iterate 7 exact rfl); exact (hIs.mono (by simp))) | (apply zac; (iterate 7 exact rfl); exact (hMy.mono (zbx (by (repeat (first | exact mcs | apply mcm ))) (by (repeat (first | exact mcs | apply mcm )))))) | (apply zaz; (iterate 7 exact rfl); exact (zaB.perm (hR _) (by (repeat (first | exact List.Perm.refl _ | (apply zaX; · (repeat (first | exact sel0 | apply selS ))) | (apply za0; · (repeat (first | exact zaP | apply zaT ))))))); rintro _ _ ⟨rfl, y2, o2, bks2, rows2, id2, os2, rfl, hf2, hok2⟩) | (apply zal; (iterate 5 exact rfl); first | (apply zaC hT; exact rfl; exact rfl; (repeat (first | exact mcs | apply mcm )); exact rfl; exact rfl) | (apply zaQ hT; exact rfl; exact rfl; (repeat (first | exact mcs )); exact rfl)) | apply zak; iterate 2 exact rfl | apply zag; iterate 2 exact rfl)
     all_goals try omega
     all_goals (apply ret1; exact rfl; exact ⟨zap g who id2 o2 os2 (zai (y2.at x.d) r.d bks2 rows2 F), by (unfold zap zai; (repeat (first | exact zar | (apply zay; · (repeat (first | exact sel0 ))) | (apply za1; · (repeat (first | exact zaP ))) | apply zat))), rfl, y2, o2, bks2, rows2, id2, os2, rfl, hf2, hok2⟩)
    ·have e : _ = zbE s who 7 f0 f1 f2 := rfl
     rw [e]
     have hR := fun G => zeT W G x s bks rows N hD hO hN hf g who id0 o outs ⟨7, f0, f1, f2, f3, f4, f5⟩ (.inr (.inl rfl)) hmw ⟨hw.1, by omega⟩ hbo
     try dsimp only at hR
     rw [show (if (7 : Int) = 6 then zcH s who ⟨7, f0, f1, f2, f3, f4, f5⟩ else zbE s who 7 f0 f1 f2) = zbE s who 7 f0 f1 f2 from rfl] at hR
     generalize zbE s who 7 f0 f1 f2 = r at *
     unfold zap zai
     refine zan Tryz.func39 rfl rfl Tryz.results39 Tryz.ntmps39 rfl rfl ?_
     repeat' (first | apply zae | apply zaa | apply zaj | apply zah | apply zaf | apply zad | apply zab hT; iterate 4 exact rfl | apply zaM [58, 59, 60] [] hmix; decide +kernel | apply zaK; (iterate 5 exact rfl); intro g5 | (apply zac; (iterate 7 exact rfl); exact (hAk.mono (by simp))) | (apply zac; (iterate 7 exact rfl); exact (hIs.mono (by simp))) | (apply zac; (iterate 7 exact rfl); exact (hMy.mono (zbx (by (repeat (first | exact mcs | apply mcm ))) (by (repeat (first | exact mcs | apply mcm )))))) | (apply zaz; (iterate 7 exact rfl); exact (zaB.perm (hR _) (by (repeat (first | exact List.Perm.refl _ | (apply zaX; · (repeat (first | exact sel0 | apply selS ))) | (apply za0; · (repeat (first | exact zaP | apply zaT ))))))); rintro _ _ ⟨rfl, y2, o2, bks2, rows2, id2, os2, rfl, hf2, hok2⟩) | (apply zal; (iterate 5 exact rfl); first | (apply zaC hT; exact rfl; exact rfl; (repeat (first | exact mcs | apply mcm )); exact rfl; exact rfl) | (apply zaQ hT; exact rfl; exact rfl; (repeat (first | exact mcs )); exact rfl)) | apply zak; iterate 2 exact rfl | apply zag; iterate 2 exact rfl)
     all_goals try omega
     all_goals (apply ret1; exact rfl; exact ⟨zap g who id2 o2 os2 (zai (y2.at x.d) r.d bks2 rows2 F), by (unfold zap zai; (repeat (first | exact zar | (apply zay; · (repeat (first | exact sel0 ))) | (apply za1; · (repeat (first | exact zaP ))) | apply zat))), rfl, y2, o2, bks2, rows2, id2, os2, rfl, hf2, hok2⟩)
    ·have e : _ = zbE s who 8 f0 f1 f2 := rfl
     rw [e]
     have hR := fun G => zeT W G x s bks rows N hD hO hN hf g who id0 o outs ⟨8, f0, f1, f2, f3, f4, f5⟩ (.inr (.inr rfl)) hmw ⟨hw.1, by omega⟩ hbo
     try dsimp only at hR
     rw [show (if (8 : Int) = 6 then zcH s who ⟨8, f0, f1, f2, f3, f4, f5⟩ else zbE s who 8 f0 f1 f2) = zbE s who 8 f0 f1 f2 from rfl] at hR
     generalize zbE s who 8 f0 f1 f2 = r at *
     unfold zap zai
     refine zan Tryz.func39 rfl rfl Tryz.results39 Tryz.ntmps39 rfl rfl ?_
     repeat' (first | apply zae | apply zaa | apply zaj | apply zah | apply zaf | apply zad | apply zab hT; iterate 4 exact rfl | apply zaM [58, 59, 60] [] hmix; decide +kernel | apply zaK; (iterate 5 exact rfl); intro g5 | (apply zac; (iterate 7 exact rfl); exact (hAk.mono (by simp))) | (apply zac; (iterate 7 exact rfl); exact (hIs.mono (by simp))) | (apply zac; (iterate 7 exact rfl); exact (hMy.mono (zbx (by (repeat (first | exact mcs | apply mcm ))) (by (repeat (first | exact mcs | apply mcm )))))) | (apply zaz; (iterate 7 exact rfl); exact (zaB.perm (hR _) (by (repeat (first | exact List.Perm.refl _ | (apply zaX; · (repeat (first | exact sel0 | apply selS ))) | (apply za0; · (repeat (first | exact zaP | apply zaT ))))))); rintro _ _ ⟨rfl, y2, o2, bks2, rows2, id2, os2, rfl, hf2, hok2⟩) | (apply zal; (iterate 5 exact rfl); first | (apply zaC hT; exact rfl; exact rfl; (repeat (first | exact mcs | apply mcm )); exact rfl; exact rfl) | (apply zaQ hT; exact rfl; exact rfl; (repeat (first | exact mcs )); exact rfl)) | apply zak; iterate 2 exact rfl | apply zag; iterate 2 exact rfl)
     all_goals try omega
     all_goals (apply ret1; exact rfl; exact ⟨zap g who id2 o2 os2 (zai (y2.at x.d) r.d bks2 rows2 F), by (unfold zap zai; (repeat (first | exact zar | (apply zay; · (repeat (first | exact sel0 ))) | (apply za1; · (repeat (first | exact zaP ))) | apply zat))), rfl, y2, o2, bks2, rows2, id2, os2, rfl, hf2, hok2⟩)
    ·have e : _ = askD s who ⟨9, f0, f1, f2, f3, f4, f5⟩ := rfl
     rw [e]
     have hR := fun G => zi2 W G x s bks rows N hD hN hf g who id0 o outs ⟨9, f0, f1, f2, f3, f4, f5⟩ rfl hmw hbo
     try dsimp only at hR
     skip
     generalize askD s who ⟨9, f0, f1, f2, f3, f4, f5⟩ = r at *
     unfold zap zai
     refine zan Tryz.func39 rfl rfl Tryz.results39 Tryz.ntmps39 rfl rfl ?_
     repeat' (first | apply zae | apply zaa | apply zaj | apply zah | apply zaf | apply zad | apply zab hT; iterate 4 exact rfl | apply zaM [58, 59, 60] [] hmix; decide +kernel | apply zaK; (iterate 5 exact rfl); intro g5 | (apply zac; (iterate 7 exact rfl); exact (hAk.mono (by simp))) | (apply zac; (iterate 7 exact rfl); exact (hIs.mono (by simp))) | (apply zac; (iterate 7 exact rfl); exact (hMy.mono (zbx (by (repeat (first | exact mcs | apply mcm ))) (by (repeat (first | exact mcs | apply mcm )))))) | (apply zaz; (iterate 7 exact rfl); exact (zaB.perm (hR _) (by (repeat (first | exact List.Perm.refl _ | (apply zaX; · (repeat (first | exact sel0 | apply selS ))) | (apply za0; · (repeat (first | exact zaP | apply zaT ))))))); rintro _ _ ⟨rfl, y2, o2, bks2, rows2, id2, os2, rfl, hf2, hok2⟩) | (apply zal; (iterate 5 exact rfl); first | (apply zaC hT; exact rfl; exact rfl; (repeat (first | exact mcs | apply mcm )); exact rfl; exact rfl) | (apply zaQ hT; exact rfl; exact rfl; (repeat (first | exact mcs )); exact rfl)) | apply zak; iterate 2 exact rfl | apply zag; iterate 2 exact rfl)
     all_goals try omega
     all_goals (apply ret1; exact rfl; exact ⟨zap g who id2 o2 os2 (zai (y2.at x.d) r.d bks2 rows2 F), by (unfold zap zai; (repeat (first | exact zar | (apply zay; · (repeat (first | exact sel0 ))) | (apply za1; · (repeat (first | exact zaP ))) | apply zat))), rfl, y2, o2, bks2, rows2, id2, os2, rfl, hf2, hok2⟩)
    ·have e : _ = zdA false s who ⟨10, f0, f1, f2, f3, f4, f5⟩ := rfl
     rw [e]
     have hR := fun G => zk5 W G x s bks rows N hD hN hf g who id0 o outs ⟨10, f0, f1, f2, f3, f4, f5⟩ rfl hmw ⟨hw.1, by omega⟩ hbo2
     try dsimp only at hR
     skip
     generalize zdA false s who ⟨10, f0, f1, f2, f3, f4, f5⟩ = r at *
     unfold zap zai
     refine zan Tryz.func39 rfl rfl Tryz.results39 Tryz.ntmps39 rfl rfl ?_
     repeat' (first | apply zae | apply zaa | apply zaj | apply zah | apply zaf | apply zad | apply zab hT; iterate 4 exact rfl | apply zaM [58, 59, 60] [] hmix; decide +kernel | apply zaK; (iterate 5 exact rfl); intro g5 | (apply zac; (iterate 7 exact rfl); exact (hAk.mono (by simp))) | (apply zac; (iterate 7 exact rfl); exact (hIs.mono (by simp))) | (apply zac; (iterate 7 exact rfl); exact (hMy.mono (zbx (by (repeat (first | exact mcs | apply mcm ))) (by (repeat (first | exact mcs | apply mcm )))))) | (apply zaz; (iterate 7 exact rfl); exact (zaB.perm (hR _) (by (repeat (first | exact List.Perm.refl _ | (apply zaX; · (repeat (first | exact sel0 | apply selS ))) | (apply za0; · (repeat (first | exact zaP | apply zaT ))))))); rintro _ _ ⟨rfl, y2, o2, bks2, rows2, id2, os2, rfl, hf2, hok2⟩) | (apply zal; (iterate 5 exact rfl); first | (apply zaC hT; exact rfl; exact rfl; (repeat (first | exact mcs | apply mcm )); exact rfl; exact rfl) | (apply zaQ hT; exact rfl; exact rfl; (repeat (first | exact mcs )); exact rfl)) | apply zak; iterate 2 exact rfl | apply zag; iterate 2 exact rfl)
     all_goals try omega
     all_goals (apply ret1; exact rfl; exact ⟨zap g who id2 o2 os2 (zai (y2.at x.d) r.d bks2 rows2 F), by (unfold zap zai; (repeat (first | exact zar | (apply zay; · (repeat (first | exact sel0 ))) | (apply za1; · (repeat (first | exact zaP ))) | apply zat))), rfl, y2, o2, bks2, rows2, id2, os2, rfl, hf2, hok2⟩)
    ·have e : _ = zdl false s who f0 := rfl
     rw [e]
     have hR := fun G => zlf W G x s bks rows hf hD.upa hD.upq hla hlq g who id0 o outs ⟨11, f0, f1, f2, f3, f4, f5⟩ rfl
     try dsimp only at hR
     skip
     generalize zdl false s who f0 = r at *
     unfold zap zai
     refine zan Tryz.func39 rfl rfl Tryz.results39 Tryz.ntmps39 rfl rfl ?_
     repeat' (first | apply zae | apply zaa | apply zaj | apply zah | apply zaf | apply zad | apply zab hT; iterate 4 exact rfl | apply zaM [58, 59, 60] [] hmix; decide +kernel | apply zaK; (iterate 5 exact rfl); intro g5 | (apply zac; (iterate 7 exact rfl); exact (hAk.mono (by simp))) | (apply zac; (iterate 7 exact rfl); exact (hIs.mono (by simp))) | (apply zac; (iterate 7 exact rfl); exact (hMy.mono (zbx (by (repeat (first | exact mcs | apply mcm ))) (by (repeat (first | exact mcs | apply mcm )))))) | (apply zaz; (iterate 7 exact rfl); exact (zaB.perm (hR _) (by (repeat (first | exact List.Perm.refl _ | (apply zaX; · (repeat (first | exact sel0 | apply selS ))) | (apply za0; · (repeat (first | exact zaP | apply zaT ))))))); rintro _ _ ⟨rfl, y2, o2, bks2, rows2, id2, os2, rfl, hf2, hok2⟩) | (apply zal; (iterate 5 exact rfl); first | (apply zaC hT; exact rfl; exact rfl; (repeat (first | exact mcs | apply mcm )); exact rfl; exact rfl) | (apply zaQ hT; exact rfl; exact rfl; (repeat (first | exact mcs )); exact rfl)) | apply zak; iterate 2 exact rfl | apply zag; iterate 2 exact rfl)
     all_goals try omega
     all_goals (apply ret1; exact rfl; exact ⟨zap g who id2 o2 os2 (zai (y2.at x.d) r.d bks2 rows2 F), by (unfold zap zai; (repeat (first | exact zar | (apply zay; · (repeat (first | exact sel0 ))) | (apply za1; · (repeat (first | exact zaP ))) | apply zat))), rfl, y2, o2, bks2, rows2, id2, os2, rfl, hf2, hok2⟩)
    ·have e : _ = hitD s who f0 := rfl
     rw [e]
     have hR := fun G => zmZ W G x s bks rows N hD hN hf g who id0 o outs ⟨12, f0, f1, f2, f3, f4, f5⟩ rfl hbo2
     try dsimp only at hR
     skip
     generalize hitD s who f0 = r at *
     unfold zap zai
     refine zan Tryz.func39 rfl rfl Tryz.results39 Tryz.ntmps39 rfl rfl ?_
     repeat' (first | apply zae | apply zaa | apply zaj | apply zah | apply zaf | apply zad | apply zab hT; iterate 4 exact rfl | apply zaM [58, 59, 60] [] hmix; decide +kernel | apply zaK; (iterate 5 exact rfl); intro g5 | (apply zac; (iterate 7 exact rfl); exact (hAk.mono (by simp))) | (apply zac; (iterate 7 exact rfl); exact (hIs.mono (by simp))) | (apply zac; (iterate 7 exact rfl); exact (hMy.mono (zbx (by (repeat (first | exact mcs | apply mcm ))) (by (repeat (first | exact mcs | apply mcm )))))) | (apply zaz; (iterate 7 exact rfl); exact (zaB.perm (hR _) (by (repeat (first | exact List.Perm.refl _ | (apply zaX; · (repeat (first | exact sel0 | apply selS ))) | (apply za0; · (repeat (first | exact zaP | apply zaT ))))))); rintro _ _ ⟨rfl, y2, o2, bks2, rows2, id2, os2, rfl, hf2, hok2⟩) | (apply zal; (iterate 5 exact rfl); first | (apply zaC hT; exact rfl; exact rfl; (repeat (first | exact mcs | apply mcm )); exact rfl; exact rfl) | (apply zaQ hT; exact rfl; exact rfl; (repeat (first | exact mcs )); exact rfl)) | apply zak; iterate 2 exact rfl | apply zag; iterate 2 exact rfl)
     all_goals try omega
     all_goals (apply ret1; exact rfl; exact ⟨zap g who id2 o2 os2 (zai (y2.at x.d) r.d bks2 rows2 F), by (unfold zap zai; (repeat (first | exact zar | (apply zay; · (repeat (first | exact sel0 ))) | (apply za1; · (repeat (first | exact zaP ))) | apply zat))), rfl, y2, o2, bks2, rows2, id2, os2, rfl, hf2, hok2⟩)
    ·have e : _ = zha s who f0 := rfl
     rw [e]
     have hR := fun G => zk9 W G x s bks rows N hD hN hf g who id0 o outs ⟨13, f0, f1, f2, f3, f4, f5⟩ rfl hbo2
     try dsimp only at hR
     skip
     generalize zha s who f0 = r at *
     unfold zap zai
     refine zan Tryz.func39 rfl rfl Tryz.results39 Tryz.ntmps39 rfl rfl ?_
     repeat' (first | apply zae | apply zaa | apply zaj | apply zah | apply zaf | apply zad | apply zab hT; iterate 4 exact rfl | apply zaM [58, 59, 60] [] hmix; decide +kernel | apply zaK; (iterate 5 exact rfl); intro g5 | (apply zac; (iterate 7 exact rfl); exact (hAk.mono (by simp))) | (apply zac; (iterate 7 exact rfl); exact (hIs.mono (by simp))) | (apply zac; (iterate 7 exact rfl); exact (hMy.mono (zbx (by (repeat (first | exact mcs | apply mcm ))) (by (repeat (first | exact mcs | apply mcm )))))) | (apply zaz; (iterate 7 exact rfl); exact (zaB.perm (hR _) (by (repeat (first | exact List.Perm.refl _ | (apply zaX; · (repeat (first | exact sel0 | apply selS ))) | (apply za0; · (repeat (first | exact zaP | apply zaT ))))))); rintro _ _ ⟨rfl, y2, o2, bks2, rows2, id2, os2, rfl, hf2, hok2⟩) | (apply zal; (iterate 5 exact rfl); first | (apply zaC hT; exact rfl; exact rfl; (repeat (first | exact mcs | apply mcm )); exact rfl; exact rfl) | (apply zaQ hT; exact rfl; exact rfl; (repeat (first | exact mcs )); exact rfl)) | apply zak; iterate 2 exact rfl | apply zag; iterate 2 exact rfl)
     all_goals try omega
     all_goals (apply ret1; exact rfl; exact ⟨zap g who id2 o2 os2 (zai (y2.at x.d) r.d bks2 rows2 F), by (unfold zap zai; (repeat (first | exact zar | (apply zay; · (repeat (first | exact sel0 ))) | (apply za1; · (repeat (first | exact zaP ))) | apply zat))), rfl, y2, o2, bks2, rows2, id2, os2, rfl, hf2, hok2⟩)
    ·have e : _ = zdB false s who 14 f0 := rfl
     rw [e]
     have hR := fun G => zhH W G x s bks rows N hD hN hf g who id0 o outs ⟨14, f0, f1, f2, f3, f4, f5⟩ (.inl rfl) hbo
     try dsimp only at hR
     skip
     generalize zdB false s who 14 f0 = r at *
     unfold zap zai
     refine zan Tryz.func39 rfl rfl Tryz.results39 Tryz.ntmps39 rfl rfl ?_
     repeat' (first | apply zae | apply zaa | apply zaj | apply zah | apply zaf | apply zad | apply zab hT; iterate 4 exact rfl | apply zaM [58, 59, 60] [] hmix; decide +kernel | apply zaK; (iterate 5 exact rfl); intro g5 | (apply zac; (iterate 7 exact rfl); exact (hAk.mono (by simp))) | (apply zac; (iterate 7 exact rfl); exact (hIs.mono (by simp))) | (apply zac; (iterate 7 exact rfl); exact (hMy.mono (zbx (by (repeat (first | exact mcs | apply mcm ))) (by (repeat (first | exact mcs | apply mcm )))))) | (apply zaz; (iterate 7 exact rfl); exact (zaB.perm (hR _) (by (repeat (first | exact List.Perm.refl _ | (apply zaX; · (repeat (first | exact sel0 | apply selS ))) | (apply za0; · (repeat (first | exact zaP | apply zaT ))))))); rintro _ _ ⟨rfl, y2, o2, bks2, rows2, id2, os2, rfl, hf2, hok2⟩) | (apply zal; (iterate 5 exact rfl); first | (apply zaC hT; exact rfl; exact rfl; (repeat (first | exact mcs | apply mcm )); exact rfl; exact rfl) | (apply zaQ hT; exact rfl; exact rfl; (repeat (first | exact mcs )); exact rfl)) | apply zak; iterate 2 exact rfl | apply zag; iterate 2 exact rfl)
     all_goals try omega
     all_goals (apply ret1; exact rfl; exact ⟨zap g who id2 o2 os2 (zai (y2.at x.d) r.d bks2 rows2 F), by (unfold zap zai; (repeat (first | exact zar | (apply zay; · (repeat (first | exact sel0 ))) | (apply za1; · (repeat (first | exact zaP ))) | apply zat))), rfl, y2, o2, bks2, rows2, id2, os2, rfl, hf2, hok2⟩)
    ·have e : _ = zdB false s who 15 f0 := rfl
     rw [e]
     have hR := fun G => zhH W G x s bks rows N hD hN hf g who id0 o outs ⟨15, f0, f1, f2, f3, f4, f5⟩ (.inr rfl) hbo
     try dsimp only at hR
     skip
     generalize zdB false s who 15 f0 = r at *
     unfold zap zai
     refine zan Tryz.func39 rfl rfl Tryz.results39 Tryz.ntmps39 rfl rfl ?_
     repeat' (first | apply zae | apply zaa | apply zaj | apply zah | apply zaf | apply zad | apply zab hT; iterate 4 exact rfl | apply zaM [58, 59, 60] [] hmix; decide +kernel | apply zaK; (iterate 5 exact rfl); intro g5 | (apply zac; (iterate 7 exact rfl); exact (hAk.mono (by simp))) | (apply zac; (iterate 7 exact rfl); exact (hIs.mono (by simp))) | (apply zac; (iterate 7 exact rfl); exact (hMy.mono (zbx (by (repeat (first | exact mcs | apply mcm ))) (by (repeat (first | exact mcs | apply mcm )))))) | (apply zaz; (iterate 7 exact rfl); exact (zaB.perm (hR _) (by (repeat (first | exact List.Perm.refl _ | (apply zaX; · (repeat (first | exact sel0 | apply selS ))) | (apply za0; · (repeat (first | exact zaP | apply zaT ))))))); rintro _ _ ⟨rfl, y2, o2, bks2, rows2, id2, os2, rfl, hf2, hok2⟩) | (apply zal; (iterate 5 exact rfl); first | (apply zaC hT; exact rfl; exact rfl; (repeat (first | exact mcs | apply mcm )); exact rfl; exact rfl) | (apply zaQ hT; exact rfl; exact rfl; (repeat (first | exact mcs )); exact rfl)) | apply zak; iterate 2 exact rfl | apply zag; iterate 2 exact rfl)
     all_goals try omega
     all_goals (apply ret1; exact rfl; exact ⟨zap g who id2 o2 os2 (zai (y2.at x.d) r.d bks2 rows2 F), by (unfold zap zai; (repeat (first | exact zar | (apply zay; · (repeat (first | exact sel0 ))) | (apply za1; · (repeat (first | exact zaP ))) | apply zat))), rfl, y2, o2, bks2, rows2, id2, os2, rfl, hf2, hok2⟩)
    ·have e : _ = zb2 s who f0 := rfl
     rw [e]
     have hR := fun G => zmO W G x s bks rows g who id0 f0 o outs hf hD.upa hla hlq hld hbo2
     try dsimp only at hR
     skip
     generalize zb2 s who f0 = r at *
     unfold zap zai
     refine zan Tryz.func39 rfl rfl Tryz.results39 Tryz.ntmps39 rfl rfl ?_
     repeat' (first | apply zae | apply zaa | apply zaj | apply zah | apply zaf | apply zad | apply zab hT; iterate 4 exact rfl | apply zaM [58, 59, 60] [] hmix; decide +kernel | apply zaK; (iterate 5 exact rfl); intro g5 | apply zaZ hT; (iterate 9 exact rfl); (iterate 2 omega) | (apply zac; (iterate 7 exact rfl); exact (hAk.mono (by simp))) | (apply zac; (iterate 7 exact rfl); exact (hIs.mono (by simp))) | (apply zac; (iterate 7 exact rfl); exact (hMy.mono (zbx (by (repeat (first | exact mcs | apply mcm ))) (by (repeat (first | exact mcs | apply mcm )))))) | (apply zaz; (iterate 7 exact rfl); exact (zaB.perm (hR _) (by (repeat (first | exact List.Perm.refl _ | (apply zaX; · (repeat (first | exact sel0 | apply selS ))) | (apply za0; · (repeat (first | exact zaP | apply zaT ))))))); rintro _ _ ⟨rfl, y2, o2, bks2, rows2, id2, os2, rfl, hf2, hok2⟩) | (apply zal; (iterate 5 exact rfl); first | (apply zaC hT; exact rfl; exact rfl; (repeat (first | exact mcs | apply mcm )); exact rfl; exact rfl) | (apply zaQ hT; exact rfl; exact rfl; (repeat (first | exact mcs )); exact rfl)) | apply zak; iterate 2 exact rfl | apply zag; iterate 2 exact rfl)
     all_goals try omega
     all_goals (apply ret1; exact rfl; exact ⟨zap g who id2 o2 os2 (zai (y2.at x.d) r.d bks2 rows2 F), by (unfold zap zai; (repeat (first | exact zar | (apply zay; · (repeat (first | exact sel0 ))) | (apply za1; · (repeat (first | exact zaP ))) | apply zat))), rfl, y2, o2, bks2, rows2, id2, os2, rfl, hf2, hok2⟩)
    ·have e : _ = zeN s f0 f1 := rfl
     rw [e]
     have hR := fun G => zmR W G x s bks rows N hD hf g who id0 f0 f1 o outs
     try dsimp only at hR
     skip
     generalize zeN s f0 f1 = r at *
     unfold zap zai
     refine zan Tryz.func39 rfl rfl Tryz.results39 Tryz.ntmps39 rfl rfl ?_
     repeat' (first | apply zae | apply zaa | apply zaj | apply zah | apply zaf | apply zad | apply zab hT; iterate 4 exact rfl | apply zaM [58, 59, 60] [] hmix; decide +kernel | apply zaK; (iterate 5 exact rfl); intro g5 | apply zaZ hT; (iterate 9 exact rfl); (iterate 2 omega) | (apply zac; (iterate 7 exact rfl); exact (hAk.mono (by simp))) | (apply zac; (iterate 7 exact rfl); exact (hIs.mono (by simp))) | (apply zac; (iterate 7 exact rfl); exact (hMy.mono (zbx (by (repeat (first | exact mcs | apply mcm ))) (by (repeat (first | exact mcs | apply mcm )))))) | (apply zaz; (iterate 7 exact rfl); exact (zaB.perm (hR _) (by (repeat (first | exact List.Perm.refl _ | (apply zaX; · (repeat (first | exact sel0 | apply selS ))) | (apply za0; · (repeat (first | exact zaP | apply zaT ))))))); rintro _ _ ⟨rfl, y2, o2, bks2, rows2, id2, os2, rfl, hf2, hok2⟩) | (apply zal; (iterate 5 exact rfl); first | (apply zaC hT; exact rfl; exact rfl; (repeat (first | exact mcs | apply mcm )); exact rfl; exact rfl) | (apply zaQ hT; exact rfl; exact rfl; (repeat (first | exact mcs )); exact rfl)) | apply zag; iterate 2 exact rfl)
     all_goals try omega
     all_goals (apply ret1; exact rfl; exact ⟨zap g who id2 o2 os2 (zai (y2.at x.d) r.d bks2 rows2 F), by (unfold zap zai; (repeat (first | exact zar | (apply zay; · (repeat (first | exact sel0 ))) | (apply za1; · (repeat (first | exact zaP ))) | apply zat))), rfl, y2, o2, bks2, rows2, id2, os2, rfl, hf2, hok2⟩)
end Go.Proofs.YtakilgkpfjhfdaaGreat
