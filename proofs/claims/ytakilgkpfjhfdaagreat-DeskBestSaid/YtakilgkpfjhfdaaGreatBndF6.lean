/- The statements' walks, and what they stand on, joined into few texts: part 6. Conditions stand in each statement. -/
import Derived.Test.YtakilgkpfjhfdaaGreatBndF5
set_option linter.all false
namespace Go.Proofs.YtakilgkpfjhfdaaGreat
open Go Go.Sl
attribute [local irreducible] AW ES EP Ld RetQ
set_option maxRecDepth 100000
theorem zhL {N : Nat} {s : Dk} (hD : DOK N s) {who : Int} {n : Nat} {o : zaA} {how : Int} : (zbT s who n o how).outs.length ≤ 400 := by
 unfold zbT
 dsimp only
 split
 ·exact Nat.zero_le _
 ·have h1 := zgy (how := how) (o := { o with seq := s.seq + 1 }) (hD.bookB n)
  have h2 := zfK (who := who) (o := o) (n := n) (doV how { o with seq := s.seq + 1 } (zbA s n)).fills ⟨{ s with seq := s.seq + 1, books := s.books.set n (doV how { o with seq := s.seq + 1 } (zbA s n)).bk }, (doV how { o with seq := s.seq + 1 } (zbA s n)).gones.map fun g => outM who 21 [g.id, g.left], o.left⟩
  dsimp only at h2
  rw [List.length_map] at h2
  split
  ·rw [List.length_append, h2]; show _ + 1 ≤ _; omega
  ·rw [h2]; omega
theorem zi6 {N : Nat} {s : Dk} (hD : DOK N s) {who : Int} {m : MsgR} : (zdR false s who m).outs.length ≤ 1000000 := by
 have hH : ∀ a q, (hitQ s a q).outs.length ≤ 1000000 := fun a q => by
  unfold hitQ
  repeat' split
  all_goals (first | exact Nat.zero_le _ | show 1 ≤ _; omega)
 have h8 := hD.few
 unfold zdR
 split
 ·exact Nat.zero_le _
 split
 ·unfold zcH
  dsimp only
  split
  ·exact Nat.zero_le _
  split
  ·exact Nat.zero_le _
  split
  ·exact Nat.zero_le _
  have := zhL hD (who := who) (n := m.f0.toNat) (o := ⟨s.order + 1, 0, who, m.f1, m.f2, m.f3⟩) (how := m.f4)
  split
  ·dsimp only; omega
  ·omega
 split
 ·unfold zbE
  dsimp only
  split
  ·exact Nat.zero_le _
  split
  ·exact Nat.zero_le _
  split
  ·exact Nat.zero_le _
  split
  ·split
   ·exact Nat.zero_le _
   split
   ·exact Nat.zero_le _
   ·rename_i o _ _ _ _ _
    have := zhL (hD.setDrop (zc2 s.books m.f0).toNat o.id) (who := who) (n := (zc2 s.books m.f0).toNat) (o := { o with price := m.f1, left := m.f2 }) (how := 0)
    dsimp only
    omega
  ·show 1 ≤ _; omega
 split
 ·unfold zdA
  split
  ·exact Nat.zero_le _
  repeat' split
  all_goals first
   | exact Nat.zero_le _
   | (dsimp only; split <;> first | exact Nat.zero_le _ | show 1 ≤ _; omega)
 split
 ·unfold zdl
  repeat' split
  all_goals exact Nat.zero_le _
 split
 ·unfold hitD
  repeat' split
  all_goals first | exact Nat.zero_le _ | exact hH _ _
 split
 ·unfold zha
  repeat' split
  all_goals first | exact Nat.zero_le _ | exact hH _ _
 split
 ·unfold zdB
  split
  ·exact Nat.zero_le _
  split
  ·exact Nat.zero_le _
  dsimp only
  split
  ·exact Nat.zero_le _
  split
  ·unfold zbe
   dsimp only
   split <;> (show 1 ≤ _; omega)
  ·split
   ·exact Nat.zero_le _
   split
   ·exact Nat.zero_le _
   ·show 3 ≤ _; omega
 split
 ·unfold zb2
  repeat' split
  all_goals (first | exact Nat.zero_le _ | show 1 ≤ _; omega)
 split
 ·unfold askD
  dsimp only
  repeat' split
  all_goals first
   | exact Nat.zero_le _
   | (refine Nat.le_trans (List.length_filterMap_le _ _) ?_; rw [List.length_range]; omega)
 ·unfold zeN
  repeat' split
  all_goals exact Nat.zero_le _
def zgX (x : DAd) (F : List zax) (r : Dk × List OutR) (v : Value) (h' : List zax) : Prop :=
 ∃ (y : DAd) (bks : List BAd) (rows : List PRow) (A : Option Addr) (c : Nat), v = .slice A r.2.length c ∧ h' = .own A r.2.length c 45 8 (r.2.flatMap OutR.enc) :: zai (y.at x.d) r.1 bks rows F ∧ za6 r.1 bks rows ∧ OwnF A r.2.length c 8 (r.2.flatMap OutR.enc)
set_option maxHeartbeats 4000000 in
theorem zba (W : World) (F : List zax) (x : DAd) (s : Dk) (bks : List BAd) (rows : List PRow) (N : Nat) (hD : DOK N s) (hO : OwnI s) (hN : N ≤ 10000) (hf : za6 s bks rows) (who seq : Int) (m : MsgR) (hmw : MsgW m) :
 zaB Tryz.prog W 15 [ptrV x.d, .int .i64 who, .int .i64 seq, .agg m.enc.toArray] (zai x s bks rows F) (zgX x F (doD false s who seq m)) := by
 refine zaB.dropF ?_
 have hDs := fun G g => zm4 W G x s bks rows N hD hO hN hf g who 0 ⟨none, 0⟩ [] m hmw (Nat.zero_le _)
 have hos : (zdR false s who m).outs.length ≤ 1000000 := zi6 hD
 unfold doD
 generalize zdR false s who m = r at *
 have hOu := fun h A to kind (ns : List Int) (hm : zax.own A ns.length ns.length 2 1 (ns.map (Value.int .i64)) ∈ h) (hl : ns.length ≤ 6) => zkn W h A ns.length to kind ns (zaJ.ints hm rfl) hl
 dsimp only
 refine zan Tryz.func15 rfl rfl Tryz.results15 Tryz.ntmps15 rfl rfl ?_
 refine zbV (fun w hw => ⟨_, hw.own_nil 45 8, ?_⟩)
 unfold zai
 by_cases he : r.err ≠ 0
 ·rw [if_pos he]
  repeat' (first | apply zae | apply zaa | apply zaj | apply zah | apply zad | apply zab hT; iterate 4 exact rfl | (apply zaK; (iterate 5 exact rfl); first | (fail_if_success (have q := g7)); intro g7 | intro g15) | (apply zaO hT (cs := [.int .i64 who, .int .i64 0, .slice none 0 0]); iterate 4 exact rfl) | (apply zaz; (iterate 7 exact rfl); exact (zaB.perm (hDs _ g15) (by unfold zap zai; (repeat (first | exact List.Perm.refl _ | (apply zaX; · (repeat (first | exact sel0 | apply selS ))) | (apply za0; · (repeat (first | exact zaP | apply zaT ))))))); rintro _ _ ⟨rfl, y2, o2, bks2, rows2, id2, os2, rfl, hf2, hok2⟩) | (apply zao (cs := [.int .i64 seq, .int .i64 r.err]) hT; (iterate 12 exact rfl); intro g25) | (apply zao (cs := (outM who 19 [seq, r.err]).enc) hT; (iterate 12 exact rfl); intro g27) | (apply zac; (iterate 7 exact rfl); exact (hOu _ (some ⟨g25, 0, none⟩) who 19 [seq, r.err] (by (repeat (first | exact mcs ))) (Nat.le_of_ble_eq_true rfl))) | (apply zal; (iterate 5 exact rfl); first | (apply zaQ hT; exact rfl; exact rfl; (repeat (first | exact mcs | apply mcm )); exact rfl)) | (apply zag; iterate 2 exact rfl) | (apply zam; exact rfl; all_goals (intro hb; (try dsimp only at hb); (try simp only [hb]); (first | replace hb := zaD hb | replace hb := zaE hb ); (try omega))))
  all_goals try omega
  all_goals (apply ret1; exact rfl; exact ⟨.own (some ⟨g27, 0, none⟩) 1 1 45 8 ([outM who 19 [seq, r.err]].flatMap OutR.enc) :: zai (y2.at x.d) r.d bks2 rows2 F, by (unfold zap zai; (repeat (first | exact zar | (apply zay; · (repeat (first | exact sel0 | apply selS ))) | (apply za1; · (repeat (first | exact zaP | apply zaT ))) | apply zat))), fun w hw => ⟨y2, bks2, rows2, _, _, rfl, rfl, hf2, hw.ownF mem0⟩⟩)
 ·rw [if_neg he]
  have he := Decidable.not_not.1 he
  repeat' (first | apply zae | apply zaa | apply zaj | apply zah | apply zad | apply zab hT; iterate 4 exact rfl | (apply zb8 [40] [] (.step 0 <| .step 1 <| .step 2 <| .step 3 <| .step 4 <| .step 5 <| .step 9 <| .step 10 <| .step 11 <| .step 12 <| .step 6 <| .step 7 <| .step 8 <| .step 13 <| .step 14 <| .nil) hmix; decide +kernel) | apply zcX | apply zbN; exact rfl | (apply zaK; (iterate 5 exact rfl); first | (fail_if_success (have q := g7)); intro g7 | intro g15) | (apply zaO hT (cs := [.int .i64 who, .int .i64 0, .slice none 0 0]); iterate 4 exact rfl) | (apply zaz; (iterate 7 exact rfl); exact (zaB.perm (hDs _ g15) (by unfold zap zai; (repeat (first | exact List.Perm.refl _ | (apply zaX; · (repeat (first | exact sel0 | apply selS ))) | (apply za0; · (repeat (first | exact zaP | apply zaT ))))))); (rintro _ _ ⟨rfl, y2, o2, bks2, rows2, id2, os2, rfl, hf2, hok2⟩; rw [he]; obtain ⟨rfl, rfl⟩ := hok2 he)) | (apply zao (cs := [.int .i64 seq, .int .i64 r.id]) hT; (iterate 12 exact rfl); intro g34) | (apply zao (cs := (outM who 18 [seq, r.id]).enc) hT; (iterate 12 exact rfl); intro g36) | (apply zac; (iterate 7 exact rfl); exact (hOu _ (some ⟨g34, 0, none⟩) who 18 [seq, r.id] (by (repeat (first | exact mcs ))) (Nat.le_of_ble_eq_true rfl))) | (apply zbg hT; (iterate 10 exact rfl); (repeat (first | exact sel0 )); exact (zaJ.enc (l := [] ++ r.outs) OutR.enc_len OutR.enc_one (by (repeat (first | exact mcs | apply mcm ))) rfl); (rw [List.nil_append]; omega); ((show (1 + (([] : List OutR) ++ r.outs).length) * 64 ≤ _); rw [List.nil_append]; omega); intro A' c') | (apply zal; (iterate 5 exact rfl); first | (apply zaC hT; exact rfl; exact rfl; (repeat (first | exact mcs )); exact rfl; exact rfl) | (apply zaQ hT; exact rfl; exact rfl; (repeat (first | exact mcs | apply mcm )); exact rfl)) | (apply zag; iterate 2 exact rfl))
  all_goals try omega
  all_goals
   apply ret1
   exact rfl
   refine ⟨.own A' (1 + ([] ++ r.outs : List OutR).length) c' 45 8 ((outM who 18 [seq, r.id] :: r.outs).flatMap OutR.enc) :: zai (y2.at x.d) r.d bks2 rows2 F, by (unfold zap zai; (repeat (first | exact zar | (apply zay; · (repeat (first | exact sel0 | apply selS ))) | (apply za1; · (repeat (first | exact zaP | apply zaT ))) | apply zat))), fun w hw => ?_⟩
   have e : 1 + ([] ++ r.outs : List OutR).length = (outM who 18 [seq, r.id] :: r.outs).length := by simp [Nat.add_comm]
   rw [e] at hw ⊢
   exact ⟨y2, bks2, rows2, _, _, rfl, rfl, hf2, hw.ownF mem0⟩
theorem DOK.tick0 {N : Nat} {s : Dk} (h : DOK N s) : DOK (N + 1) ({ s with now := s.now + 1, due := s.due.drop (zb9 s.due (s.now + 1)) } : Dk) := by
 have h' := h.up
 have hn := h.now
 exact ⟨h'.rules, h'.nbk, h'.bks, h'.bid, h'.order, h'.seq, ⟨by show 0 ≤ s.now + 1; omega, by show s.now + 1 ≤ ((N + 1 : Nat) : Int); omega⟩, h'.quote, h'.ask, h'.nus, h'.us, h'.upq, h'.nq,
  fun q hq => (h'.qs q hq).mono (Int.le_refl _) rfl (by show s.now ≤ s.now + 1; omega), h'.upa, h'.na, fun a ha => (h'.as_ a ha).mono (Int.le_refl _) rfl rfl (by show s.now ≤ s.now + 1; omega),
  h'.row.sub (List.drop_sublist _ _), Nat.le_trans (List.drop_sublist _ _).length_le h'.nd, h'.ncash, h'.cash, h'.npos, h'.pos, h'.nt, h'.head⟩
theorem zjS {xs : List Due} {k : Nat} {d : Due} {s : Dk × List OutR} (h : xs[k]? = some d) : (xs.take (k + 1)).foldl (dueD false) s = dueD false ((xs.take k).foldl (dueD false) s) d := by
 rw [List.take_add_one, h, List.foldl_append]; rfl
theorem zgY : ∀ (xs : List Due) (s : Dk × List OutR), (xs.foldl (dueD false) s).2.length ≤ s.2.length + xs.length
 | [], s => by simp
 | x :: xs, s => by
   rw [List.foldl_cons]
   have h1 := zgY xs (dueD false s x)
   have h2 : (dueD false s x).2.length ≤ s.2.length + 1 := by
    unfold dueD
    split
    ·dsimp only; omega
    ·split
     ·omega
     ·split
      ·dsimp only
       unfold zbe
       dsimp only
       split <;> (rw [List.length_append]; show _ + 1 ≤ _; omega)
      ·split
       ·dsimp only; rw [List.length_append]; show _ + 1 ≤ _; omega
       ·omega
   rw [List.length_cons]; omega
theorem zi7 (s : Dk × List OutR) (x : Due) : (dueD false s x).1.books = s.1.books ∧ (dueD false s x).1.pos = s.1.pos := by
 unfold dueD
 split
 ·exact ⟨rfl, rfl⟩
 ·split
  ·exact ⟨rfl, rfl⟩
  ·split
   ·dsimp only
    unfold zbe
    dsimp only
    split <;> exact ⟨rfl, rfl⟩
   ·split <;> exact ⟨rfl, rfl⟩
theorem zfQ : ∀ (xs : List Due) (s : Dk × List OutR), (xs.foldl (dueD false) s).1.books = s.1.books ∧ (xs.foldl (dueD false) s).1.pos = s.1.pos
 | [], s => ⟨rfl, rfl⟩
 | x :: xs, s => by
   rw [List.foldl_cons]
   have h1 := zfQ xs (dueD false s x)
   have h2 := zi7 s x
   exact ⟨h1.1.trans h2.1, h1.2.trans h2.2⟩
set_option maxHeartbeats 8000000 in
theorem zgZ (W : World) (F : List zax) (x : DAd) (s : Dk) (bks : List BAd) (rows : List PRow) (N : Nat) (hD : DOK N s) (hN : N ≤ 10000) (hf : za6 s bks rows) :
 zaB Tryz.prog W 23 [ptrV x.d] (zai x s bks rows F) (zgX x F (zcB false s)) := by
 refine zaB.dropF ?_
 have hld : s.due.length ≤ 1000000 := by have := hD.nd; omega
 have hnw := hD.now
 have hnd := hD.nd
 have hTk := fun G => zmf W G x.u x.due.A x.due.c s.due (s.now + 1) hld
 have hD0 : DOK (N + 1) ({ s with now := s.now + 1, due := s.due.drop (zb9 s.due (s.now + 1)) } : Dk) := hD.tick0
 unfold zcB
 have hxe : (s.due.take (zb9 s.due (s.now + 1))).length = zb9 s.due (s.now + 1) := by
  rw [List.length_take]
  exact Nat.min_eq_left (List.takeWhile_sublist _).length_le
 have hxl : zb9 s.due (s.now + 1) ≤ N := Nat.le_trans (List.takeWhile_sublist _).length_le hnd
 generalize zb9 s.due (s.now + 1) = k0 at *
 generalize s.due.take k0 = xs at *
 generalize s.due.drop k0 = ds at *
 subst hxe
 generalize hs0 : (({ s with now := s.now + 1, due := ds } : Dk), ([] : List OutR)) = s0 at *
 have hf0 : za6 s0.1 bks rows := by rw [← hs0]; exact hf
 have hD0' : DOK (N + 1) s0.1 := by rw [← hs0]; exact hD0
 have ho0 : s0.2 = [] := by rw [← hs0]
 refine zan Tryz.func23 rfl rfl Tryz.results23 Tryz.ntmps23 rfl rfl ?_
 refine zbV (fun w hw => ⟨_, hw.own_nil 45 8, ?_⟩)
 unfold zai
 repeat' (first | apply zae | apply zaa | apply zah | apply zaf | apply zad | apply zab hT; iterate 4 exact rfl | (apply zaN hT; (iterate 4 exact rfl); (iterate 2 (first | omega ))) | apply zaK; (iterate 5 exact rfl); intro g11 | apply zaO hT (cs := [.int .i64 0, .int .i64 0, .slice none 0 0]); iterate 4 exact rfl | (apply zaF hT; (iterate 6 exact rfl); (repeat (first | exact sel0 | apply selS )); (iterate 3 exact rfl); exact nle rfl) | (apply zb8 [] [] (.step 0 <| .step 1 <| .step 2 <| .step 3 <| .step 4 <| .step 5 <| .step 6 <| .step 7 <| .step 10 <| .step 8 <| .step 9 <| .nil) hmix; decide +kernel) | apply zcX | apply zbN; exact rfl | (apply zaz; (iterate 7 exact rfl); exact (zaB.perm (hTk _) (by (repeat (first | exact List.Perm.refl _ | (apply zaX; · (repeat (first | exact sel0 | apply selS ))) )))); rintro _ _ ⟨A1, c1, A2, c2, rfl, rfl, hod⟩) | (apply zal; (iterate 5 exact rfl); first | (apply zaC hT; exact rfl; exact rfl; (repeat (first | exact mcs | apply mcm )); exact rfl; exact rfl) ) | apply zag; iterate 2 exact rfl)
 all_goals try omega
 all_goals
  refine zbj (α := Nat × Sp × DAd) (E := fun z => [(0, ptrV x.d), (3, ptrV g11), (27, .slice A1 xs.length c1), (28, .int .i64 xs.length), (29, .int .i64 z.1)])
   (H := fun z => .own A1 xs.length c1 121 3 (xs.flatMap Due.enc) :: zap g11 0 0 z.2.1 ((xs.take z.1).foldl (dueD false) s0).2 (zai (z.2.2.at x.d) ((xs.take z.1).foldl (dueD false) s0).1 bks rows F)) (μ := fun z => xs.length - z.1)
   (S := fun z => z.1 ≤ xs.length) (0, ⟨none, 0⟩, { x with due := ⟨A2, c2⟩ }) (Nat.zero_le _) ⟨rfl, rfl, rfl, rfl, rfl, trivial⟩ ?_ ?_
  ·dsimp only
   show zbk _ (.own A1 xs.length c1 121 3 (xs.flatMap Due.enc) :: zap g11 0 0 ⟨none, 0⟩ s0.2 (zai (({ x with due := ⟨A2, c2⟩ } : DAd).at x.d) s0.1 bks rows F))
   subst hs0
   unfold zap zai
   (repeat (first | exact zar | (apply zay; · (repeat (first | exact sel0 | apply selS )))))
  ·rintro ⟨k, o2, y⟩ hkk
   dsimp only at hkk ⊢
   by_cases hlt : k < xs.length
   ·obtain ⟨d, hd1⟩ : ∃ d, xs[k]? = some d := ⟨xs[k]'hlt, List.getElem?_eq_getElem hlt⟩
    have hd2 : xs[(k : Int).toNat]? = some d := by simpa using hd1
    have hdc : decide ((k : Int) < (xs.length : Int)) = true := by simp; omega
    have hstp := zjS (s := s0) hd1
    have hDk : DOK (N + 1) ((xs.take k).foldl (dueD false) s0).1 := DOK.dueAll (s := s0) _ hD0'
    have hol := zgY (xs.take k) s0
    rw [ho0, List.length_take] at hol
    have hbo : ((xs.take k).foldl (dueD false) s0).2.length ≤ 1000000 := by
     have : min k xs.length ≤ N := by omega
     simp only [List.length_nil] at hol
     omega
    generalize (xs.take k).foldl (dueD false) s0 = st at *
    generalize hst2 : (xs.take (k + 1)).foldl (dueD false) s0 = st2 at *
    have hla : st.1.asks.length ≤ 1000000 := by have := hDk.na; omega
    have hlq : st.1.quotes.length ≤ 1000000 := by have := hDk.nq; omega
    have hlu : st.1.due.length ≤ 1000000 := by have := hDk.nd; omega
    have hG := zgs W y.a y.asks.A y.asks.c st.1.asks d.id hla hDk.upa
    unfold dueD at hstp
    refine zaU (hod.reads mem0) rfl (fun hDi => ?_)
    have hDA := hDi (by omega)
    by_cases h3 : d.kind = 3
    ·rw [if_pos h3] at hstp
     have hK := fun G => zfX W G y.q y.quotes.A y.quotes.c st.1.quotes d.id hlq hDk.upq
     rcases hga : getA d.id st.1.asks with _ | a
     all_goals
      rw [hga] at hG
      unfold gotA at hG
      dsimp only at hG
      unfold zap zai
      repeat' (first | apply zae | apply zaa | apply zah | apply zaf | apply zad | apply zab hT; iterate 4 exact rfl | (apply zaN hT; (iterate 4 exact rfl); (iterate 2 (first | omega ))) | apply zaM [51] [] hmix; decide +kernel | apply zaS hT; (iterate 8 exact rfl); (iterate 2 omega); exact hDA | (apply zal; (iterate 5 exact rfl); exact zaY hT rfl rfl (hod.reads (by (repeat (first | exact mcs | apply mcm )))) Due.enc_len rfl hd2 rfl) | (apply zaI hT; (iterate 5 exact rfl); first | (fail_if_success (have q := g5)); intro g5 | (fail_if_success (have q := g6)); intro g6) | (apply zaF hT; (iterate 6 exact rfl); (repeat (first | exact sel0 )); (iterate 3 exact rfl); exact nle rfl) | (apply zac; (iterate 7 exact rfl); exact (hG.mono (zbx (by (repeat (first | exact mcs | apply mcm ))) (by (repeat (first | exact mcs | apply mcm )))))) | (apply zaz; (iterate 7 exact rfl); exact (zaB.perm (hK _) (by (repeat (first | exact List.Perm.refl _ | (apply zaX; · (repeat (first | exact sel0 | apply selS ))) )))); rintro _ _ ⟨rfl, rfl⟩) | (apply zal; (iterate 5 exact rfl); first | (apply zaC hT; exact rfl; exact rfl; (repeat (first | exact mcs | apply mcm )); exact rfl; exact rfl) ) | (apply zam; exact rfl; all_goals (intro hb; (try dsimp only at hb); (try simp only [hb]); (first | replace hb := odt hb | replace hb := odf hb ); (try omega))))
      all_goals try omega
      all_goals exact zaR (k + 1, o2, y) (by (try dsimp only); omega) (by (try dsimp only); omega) ⟨rfl, rfl, rfl, rfl, rfl, trivial⟩ (by dsimp only; rw [hst2, hstp]; (repeat (first | exact zar | (apply zay; · (repeat (first | exact sel0 | apply selS ))) | (apply za1; · (repeat (first | exact zaP | apply zaT ))) | apply zat)))
    ·rw [if_neg h3] at hstp
     rcases hga : getA d.id st.1.asks with _ | a
     ·rw [hga] at hG hstp
      unfold gotA at hG
      dsimp only at hG hstp
      unfold zap zai
      repeat' (first | apply zae | apply zaa | apply zah | apply zaf | apply zad | apply zab hT; iterate 4 exact rfl | apply zaq; iterate 3 exact rfl | (apply zaN hT; (iterate 4 exact rfl); (iterate 2 (first | omega ))) | apply zaM [51] [] hmix; decide +kernel | apply zaS hT; (iterate 8 exact rfl); (iterate 2 omega); exact hDA | (apply zal; (iterate 5 exact rfl); exact zaY hT rfl rfl (hod.reads (by (repeat (first | exact mcs | apply mcm )))) Due.enc_len rfl hd2 rfl) | (apply zaI hT; (iterate 5 exact rfl); first | (fail_if_success (have q := g5)); intro g5 | (fail_if_success (have q := g6)); intro g6) | (apply zaF hT; (iterate 6 exact rfl); (repeat (first | exact sel0 )); (iterate 3 exact rfl); exact nle rfl) | (apply zac; (iterate 7 exact rfl); exact (hG.mono (zbx (by (repeat (first | exact mcs | apply mcm ))) (by (repeat (first | exact mcs | apply mcm )))))) | (apply zal; (iterate 5 exact rfl); first | (apply zaC hT; exact rfl; exact rfl; (repeat (first | exact mcs | apply mcm )); exact rfl; exact rfl) ) | (apply zag; iterate 2 exact rfl) | (apply zav; exact rfl; all_goals (intro hb; (fail_if_success (change true = true at hb)); (fail_if_success (change false = false at hb)); (try dsimp only at hb); (try simp only [hb]); (first | replace hb := odt hb | replace hb := odf hb ); (try omega))) | (apply zam; exact rfl; all_goals (intro hb; (try dsimp only at hb); (try simp only [hb]); (first | replace hb := odt hb | replace hb := odf hb ); (try omega))))
      all_goals try omega
      all_goals exact zaR (k + 1, o2, y) (by (try dsimp only); omega) (by (try dsimp only); omega) ⟨rfl, rfl, rfl, rfl, rfl, trivial⟩ (by dsimp only; rw [hst2, hstp]; (repeat (first | exact zar | (apply zay; · (repeat (first | exact sel0 | apply selS ))) | (apply za1; · (repeat (first | exact zaP | apply zaT ))) | apply zat)))
     ·rw [hga] at hG hstp
      unfold gotA at hG
      dsimp only at hG hstp
      by_cases h2 : d.kind = 2 ∧ a.state = 2
      ·rw [if_pos h2] at hstp
       have hLE := fun G => zfi W G (y.at x.d) st.1 bks rows g11 0 0 o2 st.2 a hDk.upa hDk.upq hla hlq hlu hbo
       generalize zbe false st.1 a = r at *
       obtain ⟨h2a, h2b⟩ := h2
       unfold zap zai
       repeat' (first | apply zae | apply zaa | apply zah | apply zaf | apply zad | apply zab hT; iterate 4 exact rfl | (apply zaN hT; (iterate 4 exact rfl); (iterate 2 (first | omega ))) | apply zaM [51] [] hmix; decide +kernel | apply zaS hT; (iterate 8 exact rfl); (iterate 2 omega); exact hDA | (apply zal; (iterate 5 exact rfl); exact zaY hT rfl rfl (hod.reads (by (repeat (first | exact mcs | apply mcm )))) Due.enc_len rfl hd2 rfl) | (apply zaI hT; (iterate 5 exact rfl); first | (fail_if_success (have q := g5)); intro g5 | (fail_if_success (have q := g6)); intro g6) | (apply zaF hT; (iterate 6 exact rfl); (repeat (first | exact sel0 )); (iterate 3 exact rfl); exact nle rfl) | (apply zac; (iterate 7 exact rfl); exact (hG.mono (zbx (by (repeat (first | exact mcs | apply mcm ))) (by (repeat (first | exact mcs | apply mcm )))))) | (apply zaz; (iterate 7 exact rfl); exact (zaB.perm (hLE _) (by (repeat (first | exact List.Perm.refl _ | (apply zaX; · (repeat (first | exact sel0 | apply selS ))) | (apply za0; · (repeat (first | exact zaP | apply zaT ))))))); rintro _ _ ⟨rfl, y2, o3, rfl⟩) | (apply zal; (iterate 5 exact rfl); first | (apply zaC hT; exact rfl; exact rfl; (repeat (first | exact mcs | apply mcm )); exact rfl; exact rfl) | (apply zaQ hT; exact rfl; exact rfl; (repeat (first | exact mcs )); exact rfl)) | (apply zav; exact rfl; all_goals (intro hb; (fail_if_success (change true = true at hb)); (fail_if_success (change false = false at hb)); (try dsimp only at hb); (try simp only [hb]); (first | replace hb := odt hb | replace hb := odf hb ); (try omega))) | (apply zam; exact rfl; all_goals (intro hb; (try dsimp only at hb); (try simp only [hb]); (first | replace hb := odt hb | replace hb := odf hb ); (try omega))))
       all_goals try omega
       all_goals exact zaR (k + 1, o3, y2) (by (try dsimp only); omega) (by (try dsimp only); omega) ⟨rfl, rfl, rfl, rfl, rfl, trivial⟩ (by dsimp only; rw [hst2, hstp]; (repeat (first | exact zar | (apply zay; · (repeat (first | exact sel0 | apply selS | apply zbO))) | (apply za1; · (repeat (first | exact zaP ))) | apply zat)))
      ·rw [if_neg h2] at hstp
       by_cases h1 : d.kind = 1 ∧ a.state = 1
       ·rw [if_pos h1] at hstp
        have hDi := fun G => zgP W G (y.at x.d) st.1 bks rows g11 0 0 o2 st.2 a hDk.upa hla hlq hlu hbo
        obtain ⟨h1a, h1b⟩ := h1
        unfold zap zai
        repeat' (first | apply zae | apply zaa | apply zah | apply zaf | apply zad | apply zab hT; iterate 4 exact rfl | apply zaq; iterate 3 exact rfl | (apply zaN hT; (iterate 4 exact rfl); (iterate 2 (first | omega ))) | apply zaM [51] [] hmix; decide +kernel | apply zaS hT; (iterate 8 exact rfl); (iterate 2 omega); exact hDA | (apply zal; (iterate 5 exact rfl); exact zaY hT rfl rfl (hod.reads (by (repeat (first | exact mcs | apply mcm )))) Due.enc_len rfl hd2 rfl) | (apply zaI hT; (iterate 5 exact rfl); first | (fail_if_success (have q := g5)); intro g5 | (fail_if_success (have q := g6)); intro g6) | (apply zaF hT; (iterate 6 exact rfl); (repeat (first | exact sel0 )); (iterate 3 exact rfl); exact nle rfl) | (apply zac; (iterate 7 exact rfl); exact (hG.mono (zbx (by (repeat (first | exact mcs | apply mcm ))) (by (repeat (first | exact mcs | apply mcm )))))) | (apply zaz; (iterate 7 exact rfl); exact (zaB.perm (hDi _) (by (repeat (first | exact List.Perm.refl _ | (apply zaX; · (repeat (first | exact sel0 | apply selS ))) | (apply za0; · (repeat (first | exact zaP | apply zaT ))))))); rintro _ _ ⟨rfl, y2, o3, rfl⟩) | (apply zal; (iterate 5 exact rfl); first | (apply zaC hT; exact rfl; exact rfl; (repeat (first | exact mcs | apply mcm )); exact rfl; exact rfl) | (apply zaQ hT; exact rfl; exact rfl; (repeat (first | exact mcs )); exact rfl)) | (apply zag; iterate 2 exact rfl) | (apply zav; exact rfl; all_goals (intro hb; (fail_if_success (change true = true at hb)); (fail_if_success (change false = false at hb)); (try dsimp only at hb); (try simp only [hb]); (first | replace hb := odt hb | replace hb := odf hb ); (try omega))) | (apply zam; exact rfl; all_goals (intro hb; (try dsimp only at hb); (try simp only [hb]); (first | replace hb := odt hb | replace hb := odf hb ); (try omega))))
        all_goals try omega
        all_goals exact zaR (k + 1, o3, y2) (by (try dsimp only); omega) (by (try dsimp only); omega) ⟨rfl, rfl, rfl, rfl, rfl, trivial⟩ (by dsimp only; rw [hst2, hstp]; (repeat (first | exact zar | (apply zay; · (repeat (first | exact sel0 | apply selS | apply zbO))) | (apply za1; · (repeat (first | exact zaP ))) | apply zat)))
       ·rw [if_neg h1] at hstp
        unfold zap zai
        repeat' (first | apply zae | apply zaa | apply zah | apply zaf | apply zad | apply zab hT; iterate 4 exact rfl | apply zaq; iterate 3 exact rfl | (apply zaN hT; (iterate 4 exact rfl); (iterate 2 (first | omega ))) | apply zaM [51] [] hmix; decide +kernel | apply zaS hT; (iterate 8 exact rfl); (iterate 2 omega); exact hDA | (apply zal; (iterate 5 exact rfl); exact zaY hT rfl rfl (hod.reads (by (repeat (first | exact mcs | apply mcm )))) Due.enc_len rfl hd2 rfl) | (apply zaI hT; (iterate 5 exact rfl); first | (fail_if_success (have q := g5)); intro g5 | (fail_if_success (have q := g6)); intro g6) | (apply zaF hT; (iterate 6 exact rfl); (repeat (first | exact sel0 )); (iterate 3 exact rfl); exact nle rfl) | (apply zac; (iterate 7 exact rfl); exact (hG.mono (zbx (by (repeat (first | exact mcs | apply mcm ))) (by (repeat (first | exact mcs | apply mcm )))))) | (apply zal; (iterate 5 exact rfl); first | (apply zaC hT; exact rfl; exact rfl; (repeat (first | exact mcs | apply mcm )); exact rfl; exact rfl) ) | (apply zag; iterate 2 exact rfl) | (apply zav; exact rfl; all_goals (intro hb; (fail_if_success (change true = true at hb)); (fail_if_success (change false = false at hb)); (try dsimp only at hb); (try simp only [hb]); (first | replace hb := odt hb | replace hb := odf hb ); (try omega))) | (apply zam; exact rfl; all_goals (intro hb; (try dsimp only at hb); (try simp only [hb]); (first | replace hb := odt hb | replace hb := odf hb ); (try omega))))
        all_goals try omega
        all_goals exact zaR (k + 1, o2, y) (by (try dsimp only); omega) (by (try dsimp only); omega) ⟨rfl, rfl, rfl, rfl, rfl, trivial⟩ (by dsimp only; rw [hst2, hstp]; (repeat (first | exact zar | (apply zay; · (repeat (first | exact sel0 | apply selS ))) | (apply za1; · (repeat (first | exact zaP | apply zaT ))) | apply zat)))
   ·obtain rfl : k = xs.length := by omega
    have hdc : decide ((xs.length : Int) < (xs.length : Int)) = false := by simp
    rw [List.take_length] at *
    have hfe := zfQ xs s0
    generalize xs.foldl (dueD false) s0 = st at *
    have hf2 : za6 st.1 bks rows := ⟨by rw [hfe.1]; exact hf0.1, by rw [hfe.2]; exact hf0.2⟩
    unfold zap zai
    repeat' (first | apply zae | apply zaa | apply zaj | apply zas | apply zad | apply zab hT; iterate 4 exact rfl | (apply zal; (iterate 5 exact rfl); first | (apply zaC hT; exact rfl; exact rfl; (repeat (first | exact mcs | apply mcm )); exact rfl; exact rfl) ) | (apply zam; exact rfl; all_goals (intro hb; (try dsimp only at hb); (try simp only [hb]); (first | replace hb := odt hb | replace hb := odf hb ); (try omega))))
    all_goals try omega
    all_goals (apply ret1; exact rfl; exact ⟨.own o2.A st.2.length o2.c 45 8 (st.2.flatMap OutR.enc) :: zai (y.at x.d) st.1 bks rows F, by (unfold zai; (repeat (first | exact zar | (apply zay; · (repeat (first | exact sel0 | apply selS ))) | (apply za1; · (repeat (first | exact zaP | apply zaT ))) | apply zat))), fun w hw => ⟨y, bks, rows, _, _, rfl, rfl, hf2, hw.ownF mem0⟩⟩)
/-! ### in plain words, order by order -/
def zij (who : Int) (st : List zaA × List OutR) (o : zaA) : List zaA × List OutR := if o.owner = who then (zbu o.id st.1, st.2 ++ [outM who 21 [o.id, o.left]]) else st
def zlg (who : Int) (st : List zaA × List OutR) (s : Int) : List zaA × List OutR := (zbf s st.1).foldl (zij who) st
def gBk (who : Int) (l : List zaA) (outs : List OutR) : List zaA × List OutR := [1, 2].foldl (zlg who) (l, outs)
theorem zev (who : Int) : ∀ (os : List zaA) (l : List zaA) (outs : List OutR), os.foldl (zij who) (l, outs) = ((os.filter fun o => o.owner == who).foldl (fun l o => zbu o.id l) l, outs ++ (os.filter fun o => o.owner == who).map fun o => outM who 21 [o.id, o.left])
 | [], l, outs => by simp
 | o :: os, l, outs => by
   rw [List.foldl_cons, List.filter_cons]
   unfold zij
   dsimp only
   by_cases h : o.owner = who
   ·rw [if_pos h, if_pos (by simpa using h)]
    have := zev who os (zbu o.id l) (outs ++ [outM who 21 [o.id, o.left]])
    unfold zij at this
    rw [this, List.foldl_cons, List.map_cons]
    simp
   ·rw [if_neg h, if_neg (by simpa using h)]
    have := zev who os l outs
    unfold zij at this
    exact this
theorem zjT {p : zaA → Bool} {id : Int} {l : List zaA} (h : ∀ y ∈ l, y.id = id → p y = false) : (zbu id l).filter p = l.filter p := by
 rcases zeL (p := hasO id) l with ⟨hi, hf⟩ | ⟨i, y, hi, hy, hp, hf⟩
 ·unfold zbu
  rw [if_pos (by omega)]
 ·have hyi : y.id = id := by simpa [hasO] using hp
  obtain ⟨hil, hie⟩ := List.getElem?_eq_some_iff.1 hy
  have e : zbu id l = l.take i ++ l.drop (i + 1) := by
   unfold zbu
   rw [hi, if_neg (by omega)]; simp
  rw [e, List.filter_append]
  have hsp : l.filter p = (l.take i ++ y :: l.drop (i + 1)).filter p := by
   rw [← hie, List.getElem_cons_drop, List.take_append_drop]
  rw [hsp, List.filter_append, List.filter_cons, if_neg (by rw [h y (List.mem_of_getElem? hy) hyi]; decide)]
theorem zfR {p : zaA → Bool} : ∀ (os l : List zaA), zbh l → (∀ o ∈ os, ∀ y ∈ l, y.id = o.id → p y = false) → (os.foldl (fun l o => zbu o.id l) l).filter p = l.filter p
 | [], l, _, _ => rfl
 | o :: os, l, hB, h => by
   rw [List.foldl_cons, zfR os (zbu o.id l) (hB.drop _) (fun o' ho' y hy => h o' (mcm _ ho') y (zcC hy)), zjT (h o mcs)]
theorem zlh {who : Int} {l : List zaA} (hB : zbh l) : zbf 2 ((zdY who 1 l).foldl (fun l o => zbu o.id l) l) = zbf 2 l := by
 unfold zbf
 rw [zfR _ _ hB]
 intro o ho y hy he
 have hom := zc5 (List.mem_filter.1 ho).1
 have : y = o := by
  obtain ⟨i, hi⟩ := List.getElem?_of_mem hy
  obtain ⟨j, hj⟩ := List.getElem?_of_mem hom.1
  obtain ⟨hil, hie⟩ := List.getElem?_eq_some_iff.1 hi
  obtain ⟨hjl, hje⟩ := List.getElem?_eq_some_iff.1 hj
  rcases Nat.lt_trichotomy i j with h | h | h
  ·have := List.pairwise_iff_getElem.1 hB.id i j hil hjl h
   rw [hie, hje] at this; exact absurd he this
  ·subst h; rw [hi] at hj; cases hj; rfl
  ·have := List.pairwise_iff_getElem.1 hB.id j i hjl hil h
   rw [hie, hje] at this; exact absurd he.symm this
 rw [this]
 simp [zb4, hom.2]
theorem zpO {who : Int} {l : List zaA} {outs : List OutR} (hB : zbh l) : gBk who l outs = (zgt who l, outs ++ (zdY who 1 l ++ zdY who 2 l).map fun o => outM who 21 [o.id, o.left]) := by
 unfold gBk
 rw [List.foldl_cons, List.foldl_cons, List.foldl_nil]
 unfold zlg
 rw [zev who (zbf 1 l) l outs]
 dsimp only
 have h2 := zlh (who := who) hB
 unfold zdY at h2
 rw [h2, zev]
 unfold zgt zdY
 rw [List.map_append, List.append_assoc]
def bksN (who : Int) (bs : List (List zaA)) (i : Nat) : List (List zaA) := (bs.take i).map (zgt who) ++ bs.drop i
def zfL (who : Int) (bs : List (List zaA)) (i : Nat) : List OutR := (bs.take i).flatMap fun l => (zdY who 1 l ++ zdY who 2 l).map fun o => outM who 21 [o.id, o.left]
theorem zm5 {who : Int} {bs : List (List zaA)} {i : Nat} {l : List zaA} (h : bs[i]? = some l) : (bksN who bs i)[i]? = some l := by
 unfold bksN
 have hi := (List.getElem?_eq_some_iff.1 h).1
 rw [List.getElem?_append_right (by simp; omega), List.length_map, List.length_take, List.getElem?_drop, show i + (i - min i bs.length) = i by omega, h]
theorem zoj {who : Int} {bs : List (List zaA)} {i : Nat} {l : List zaA} (h : bs[i]? = some l) : (bksN who bs i).set i (zgt who l) = bksN who bs (i + 1) := by
 unfold bksN
 obtain ⟨hi, hie⟩ := List.getElem?_eq_some_iff.1 h
 rw [List.take_add_one, h, List.map_append, List.append_assoc, List.set_append_right _ _ (by simp; omega), List.length_map, List.length_take, show i - min i bs.length = 0 by omega, List.drop_eq_getElem_cons hi]
 rfl
theorem zli {who : Int} {bs : List (List zaA)} {i : Nat} {l : List zaA} (h : bs[i]? = some l) : zfL who bs (i + 1) = zfL who bs i ++ (zdY who 1 l ++ zdY who 2 l).map fun o => outM who 21 [o.id, o.left] := by
 unfold zfL
 rw [List.take_add_one, h, List.flatMap_append]
 simp
theorem zok {who : Int} {bs : List (List zaA)} {i : Nat} : (bksN who bs i).length = bs.length := by
 unfold bksN; simp; omega
theorem zg0 : ∀ (qs : List zaG) (s : Dk), (qs.foldl (zdc false) s).books = s.books ∧ (qs.foldl (zdc false) s).pos = s.pos
 | [], s => ⟨rfl, rfl⟩
 | q :: qs, s => by
   rw [List.foldl_cons]
   have h1 := zg0 qs (zdc false s q)
   have h2 : (zdc false s q).books = s.books ∧ (zdc false s q).pos = s.pos := by
    unfold zdc
    split <;> exact ⟨rfl, rfl⟩
   exact ⟨h1.1.trans h2.1, h1.2.trans h2.2⟩
/-! ### the walk -/
theorem zm6 (W : World) (h : List zax) (bd : BAd) (s : Int) (hB : zbh bd.l) (m1 : zax.blk bd.p 106 [bd.s.sl bd.l.length] ∈ h) (m2 : bd.s.own bd.l.length 52 6 (bd.l.flatMap zaA.enc) ∈ h) :
 zaB Tryz.prog W 20 [ptrV bd.p, .int .i64 s] h (fun v h' => ∃ A' c', v = .slice A' (zbf s bd.l).length c' ∧ h' = .own A' (zbf s bd.l).length c' 52 6 ((zbf s bd.l).flatMap zaA.enc) :: h ∧ OwnF A' (zbf s bd.l).length c' 6 ((zbf s bd.l).flatMap zaA.enc)) :=
 zd8 W h bd.p bd.s.A bd.s.c bd.l s m1 m2 hB.le hB.seq hB.side
theorem getB {bks : List BAd} {L : List (List zaA)} {P : List Value} {i : Nat} {l : List zaA} {v : Value} (h1 : bks.map BAd.l = L) (h2 : bks.map BAd.ptr = P) (hl : L[i]? = some l) (hv : P[i]? = some v) : ∃ bd, bks[i]? = some bd ∧ bd.l = l ∧ BAd.ptr bd = v := by
 subst h1
 subst h2
 rw [List.getElem?_map] at hl hv
 rcases hb : bks[i]? with _ | bd
 ·rw [hb] at hl; cases hl
 ·rw [hb] at hl hv
  exact ⟨bd, rfl, Option.some.inj hl, Option.some.inj hv⟩
set_option maxHeartbeats 8000000 in
theorem zi8 (W : World) (F : List zax) (x : DAd) (s : Dk) (bks : List BAd) (rows : List PRow) (N : Nat) (hD : DOK N s) (hN : N ≤ 10000) (hf : za6 s bks rows) (who : Int) :
 zaB Tryz.prog W 21 [ptrV x.d, .int .i64 who] (zai x s bks rows F) (zgX x F (zdC false s who)) := by
 refine zaB.dropF ?_
 have hla : s.asks.length ≤ 1000000 := by have := hD.na; omega
 have hlq : s.quotes.length ≤ 1000000 := by have := hD.nq; omega
 have hld : s.due.length ≤ 1000000 := by have := hD.nd; omega
 have h4 := hD.few
 have hl := zfj hf
 refine zan Tryz.func21 rfl rfl Tryz.results21 Tryz.ntmps21 rfl rfl ?_
 refine zbV (fun w hw => ⟨_, hw.own_nil 45 8, ?_⟩)
 have hrd : zaJ W (zai x s bks rows F) x.books.A s.books.length 1 (bks.map BAd.ptr) := zcO (c := x.books.c) (t := 48) (by unfold zai; (repeat (first | exact mcs | apply mcm))) hl
 refine zaU (hrd.mono (h' := .own none 0 0 45 8 [] :: zai x s bks rows F) (by (intro c hc; (repeat (first | exact hc | apply mcm))))) rfl (fun hAi => ?_)
 unfold zai
 repeat' (first | apply zae | apply zaa | apply zah | apply zaf | apply zad | apply zab hT; iterate 4 exact rfl | apply zaK; (iterate 5 exact rfl); intro g17 | apply zaO hT (cs := [.int .i64 0, .int .i64 0, .slice none 0 0]); iterate 4 exact rfl | (apply zal; (iterate 5 exact rfl); first | (apply zaC hT; exact rfl; exact rfl; (repeat (first | exact mcs | apply mcm )); exact rfl; exact rfl) ) | apply zag; iterate 2 exact rfl)
 all_goals try omega
 all_goals
  refine zbj (α := Nat × Sp × List BAd) (E := fun z => [(0, ptrV x.d), (1, .int .i64 who), (5, ptrV g17), (21, x.books.sl s.books.length), (22, .int .i64 s.books.length), (23, .int .i64 z.1)])
   (H := fun z => zap g17 0 0 z.2.1 (zfL who s.books z.1) (zai x { s with books := bksN who s.books z.1 } z.2.2 rows F)) (μ := fun z => s.books.length - z.1)
   (S := fun z => z.1 ≤ s.books.length ∧ z.2.2.map BAd.l = bksN who s.books z.1 ∧ z.2.2.map BAd.ptr = bks.map BAd.ptr ∧ (zfL who s.books z.1).length ≤ 200 * z.1) (0, ⟨none, 0⟩, bks) ⟨Nat.zero_le _, hf.1, rfl, Nat.zero_le _⟩ ⟨rfl, rfl, rfl, rfl, rfl, rfl, trivial⟩ ?_ ?_
  ·show zbk _ (zap g17 0 0 ⟨none, 0⟩ [] (zai x s bks rows F))
   unfold zap zai
   (repeat (first | exact zar))
  ·rintro ⟨i, o2, bks2⟩ ⟨hi, hb2, hp2, ho2⟩
   dsimp only at hi hb2 hp2 ho2 ⊢
   by_cases hlt : i < s.books.length
   ·obtain ⟨l, hl1⟩ : ∃ l, s.books[i]? = some l := ⟨s.books[i]'hlt, List.getElem?_eq_getElem hlt⟩
    have hBl : zbh l := hD.bks l (List.mem_of_getElem? hl1)
    have hlc : decide ((i : Int) < (s.books.length : Int)) = true := by simp; omega
    obtain ⟨pv, hpv⟩ : ∃ pv, (bks.map BAd.ptr)[i]? = some pv := ⟨(bks.map BAd.ptr)[i]'(by simp; omega), List.getElem?_eq_getElem (by simp; omega)⟩
    obtain ⟨bd, hbd1, hbd2, hbd3⟩ := getB hb2 hp2 (zm5 hl1) hpv
    have hpt : pv = ptrV bd.p := hbd3.symm
    subst hpt
    have hix : (bks.map BAd.ptr)[(i : Int).toNat * 1]? = some (ptrV bd.p) := by rw [Int.toNat_natCast, Nat.mul_one]; exact hpv
    have hbl2 : (bksN who s.books i).length = s.books.length := zok
    have hrd2 : zaJ W (zap g17 0 0 o2 (zfL who s.books i) (zai x { s with books := bksN who s.books i } bks2 rows F)) x.books.A s.books.length 1 (bks.map BAd.ptr) := by
     rw [← hp2]
     refine zcO (c := x.books.c) (t := 48) (h := zap g17 0 0 o2 (zfL who s.books i) (zai x { s with books := bksN who s.books i } bks2 rows F)) ?_ ?_
     ·unfold zap zai
      rw [← hbl2]
      (repeat (first | exact mcs | apply mcm))
     ·have := congrArg List.length hb2
      rw [List.length_map, hbl2] at this
      exact this
    have hA := hAi (by omega)
    repeat' (first | apply zae | apply zaa | apply zah | apply zaf | apply zad | apply zab hT; iterate 4 exact rfl | apply zaS hT; (iterate 8 exact rfl); (iterate 2 omega); exact hA | apply zal; (iterate 5 exact rfl); exact zbl hT rfl rfl hrd2 rfl hix | apply zao (cs := [.int .i64 1, .int .i64 2]) hT; (iterate 12 exact rfl); intro g27 | (apply zam; exact rfl; all_goals (intro hb; (try dsimp only at hb); (try simp only [hb]); (first | replace hb := odt hb | replace hb := odf hb ); (try omega))))
    all_goals try omega
    all_goals
     have hbs := zoj (who := who) hl1
     have hos := zli (who := who) hl1
     have hBi := zm5 (who := who) hl1
     have hsf : (bksN who s.books i).set i l = bksN who s.books i := zcx hBi
     have hgk := zpO (who := who) (outs := zfL who s.books i) hBl
     unfold gBk at hgk
     generalize bksN who s.books i = B at *
     generalize zfL who s.books i = O at *
     generalize hnx : bksN who s.books (i + 1) = B' at *
     generalize hno : zfL who s.books (i + 1) = O' at *
     have hiB : i < B.length := by rw [hbl2]; exact hlt
     refine zbj (α := Nat × Sp × List BAd × List zaA × List OutR) (E := fun y => [(0, ptrV x.d), (1, .int .i64 who), (5, ptrV g17), (7, ptrV bd.p), (21, x.books.sl s.books.length), (22, .int .i64 s.books.length), (23, .int .i64 i), (27, .slice (some ⟨g27, 0, none⟩) 2 2), (28, .int .i64 2), (29, .int .i64 y.1)])
      (H := fun y => .own (some ⟨g27, 0, none⟩) 2 2 3 1 [.int .i64 1, .int .i64 2] :: zap g17 0 0 y.2.1 y.2.2.2.2 (zai x { s with books := B.set i y.2.2.2.1 } y.2.2.1 rows F)) (μ := fun y => 2 - y.1)
      (S := fun y => y.1 ≤ 2 ∧ (y.2.2.2.1, y.2.2.2.2) = (([1, 2] : List Int).take y.1).foldl (zlg who) (l, O) ∧ y.2.2.1.map BAd.l = B.set i y.2.2.2.1 ∧ y.2.2.1.map BAd.ptr = bks.map BAd.ptr ∧ zbh y.2.2.2.1 ∧ y.2.2.2.2.length ≤ 200 * i + 70 * y.1)
      (0, o2, bks2, l, O) ⟨Nat.zero_le _, rfl, by dsimp only; rw [hsf]; exact hb2, hp2, hBl, by dsimp only; omega⟩ ⟨rfl, rfl, rfl, rfl, rfl, rfl, rfl, rfl, rfl, rfl, trivial⟩ ?_ ?_
     ·dsimp only
      rw [hsf]
      unfold zap zai
      (repeat (first | exact zar))
     ·rintro ⟨j, o3, bks3, lc, oc⟩ ⟨hj, hje, hb3, hp3, hBc, hoc⟩
      dsimp only at hj hje hb3 hp3 hBc hoc ⊢
      by_cases hj2 : j < 2
      ·obtain ⟨sd, hsd⟩ : ∃ sd, ([1, 2] : List Int)[j]? = some sd := ⟨([1, 2] : List Int)[j]'hj2, List.getElem?_eq_getElem hj2⟩
       have hjc : decide ((j : Int) < 2) = true := by simp; omega
       have hjx : ([.int .i64 1, .int .i64 2] : List Value)[(j : Int).toNat * 1]? = some (.int .i64 sd) := by
        have : j = 0 ∨ j = 1 := by omega
        rcases this with rfl | rfl <;> (cases hsd; rfl)
       have hstj : (([1, 2] : List Int).take (j + 1)).foldl (zlg who) (l, O) = zlg who (lc, oc) sd := by
        rw [List.take_add_one, hsd, List.foldl_append, ← hje]; rfl
       obtain ⟨⟨p3, sp3, l3⟩, hq1, hq2, hq3⟩ := getB hb3 hp3 (show (B.set i lc)[i]? = some lc by rw [List.getElem?_set, if_pos rfl, if_pos hiB]) hpv
       dsimp only at hq2
       subst hq2
       obtain rfl : p3 = bd.p := by
        unfold BAd.ptr ptrV at hq3
        injection hq3 with hq3
        injection hq3 with hq3
        injection hq3
       have hSd := fun h m1 m2 => zm6 W h ⟨bd.p, sp3, l3⟩ sd hBc m1 m2
       have hol : (zbf sd l3).length ≤ 64 := by
        rw [(zc4 sd l3).length_eq]
        exact Nat.le_trans (List.length_filter_le _ _) hBc.len
       unfold zlg at hstj
       dsimp only at hstj
       generalize zbf sd l3 = os at *
       have hr27 : zaJ W (.own (some ⟨g27, 0, none⟩) 2 2 3 1 [.int .i64 1, .int .i64 2] :: zap g17 0 0 o3 oc (zai x { s with books := B.set i l3 } bks3 rows F)) (some ⟨g27, 0, none⟩) 2 1 [.int .i64 1, .int .i64 2] := zaJ.own mem0 rfl (List.all_eq_true.1 rfl)
       repeat' (first | apply zae | apply zaa | apply zah | apply zaf | apply zad | apply zab hT; iterate 4 exact rfl | apply zaS hT; (iterate 8 exact rfl); (iterate 2 omega); exact rfl | apply zal; (iterate 5 exact rfl); exact zbl hT rfl rfl hr27 rfl hjx | (apply zaz; (iterate 7 exact rfl); exact (hSd _ (mcm _ (zhK (List.mem_of_getElem? hq1) _ (by unfold BAd.ck; exact mem0))) (mcm _ (zhK (List.mem_of_getElem? hq1) _ (by unfold BAd.ck; exact mem1)))); rintro _ _ ⟨A5, c5, rfl, rfl, hof⟩) | (apply zam; exact rfl; all_goals (intro hb; (try dsimp only at hb); (try simp only [hb]); (first | replace hb := odt hb | replace hb := odf hb ); (try omega))))
       all_goals try omega
       all_goals
        refine zaU (hof.reads mem0) rfl (fun hOi => ?_)
        refine zbj (α := Nat × Sp × List BAd × List zaA × List OutR) (E := fun u => [(0, ptrV x.d), (1, .int .i64 who), (5, ptrV g17), (7, ptrV bd.p), (21, x.books.sl s.books.length), (22, .int .i64 s.books.length), (23, .int .i64 i), (27, .slice (some ⟨g27, 0, none⟩) 2 2), (28, .int .i64 2), (29, .int .i64 j), (35, .slice A5 os.length c5), (36, .int .i64 os.length), (37, .int .i64 u.1)])
         (H := fun u => .own A5 os.length c5 52 6 (os.flatMap zaA.enc) :: .own (some ⟨g27, 0, none⟩) 2 2 3 1 [.int .i64 1, .int .i64 2] :: zap g17 0 0 u.2.1 u.2.2.2.2 (zai x { s with books := B.set i u.2.2.2.1 } u.2.2.1 rows F)) (μ := fun u => os.length - u.1)
         (S := fun u => u.1 ≤ os.length ∧ (u.2.2.2.1, u.2.2.2.2) = (os.take u.1).foldl (zij who) (l3, oc) ∧ u.2.2.1.map BAd.l = B.set i u.2.2.2.1 ∧ u.2.2.1.map BAd.ptr = bks.map BAd.ptr ∧ zbh u.2.2.2.1 ∧ u.2.2.2.2.length ≤ 200 * i + 70 * j + u.1)
         (0, o3, bks3, l3, oc) ⟨Nat.zero_le _, rfl, hb3, hp3, hBc, by dsimp only; omega⟩ ⟨rfl, rfl, rfl, rfl, rfl, rfl, rfl, rfl, rfl, rfl, rfl, rfl, rfl, trivial⟩ ?_ ?_
        ·dsimp only
         unfold zap zai
         (repeat (first | exact zar))
        ·rintro ⟨k, o4, bks4, l1, o1⟩ ⟨hk, hke, hb4, hp4, hB1, ho1⟩
         dsimp only at hk hke hb4 hp4 hB1 ho1 ⊢
         by_cases hk2 : k < os.length
         ·obtain ⟨od, hod⟩ : ∃ od, os[k]? = some od := ⟨os[k]'hk2, List.getElem?_eq_getElem hk2⟩
          have hod2 : os[(k : Int).toNat]? = some od := by simpa using hod
          have hkc : decide ((k : Int) < (os.length : Int)) = true := by simp; omega
          have hOA := hOi (by omega)
          have hstk : (os.take (k + 1)).foldl (zij who) (l3, oc) = zij who (l1, o1) od := by
           rw [List.take_add_one, hod, List.foldl_append, ← hke]; rfl
          obtain ⟨⟨p4, sp4, l4⟩, hr1, hr2, hr3⟩ := getB hb4 hp4 (show (B.set i l1)[i]? = some l1 by rw [List.getElem?_set, if_pos rfl, if_pos hiB]) hpv
          dsimp only at hr2
          subst hr2
          obtain rfl : p4 = bd.p := by
           unfold BAd.ptr ptrV at hr3
           injection hr3 with hr3
           injection hr3 with hr3
           injection hr3
          have hbo : o1.length ≤ 1000000 := by omega
          unfold zij at hstk
          dsimp only at hstk
          by_cases hwo : od.owner = who
          ·rw [if_pos hwo] at hstk
           have hDr := fun G => zi5 W G x { s with books := B.set i l4 } bks4 rows g17 0 0 o4 o1 i ⟨bd.p, sp4, l4⟩ od.id hr1 hB1.le
           dsimp only at hDr
           simp only [List.set_set] at hDr
           unfold zap
           repeat' (first | apply zae | apply zaa | apply zah | apply zaf | apply zad | apply zab hT; iterate 4 exact rfl | (apply zaN hT; (iterate 4 exact rfl); (iterate 2 (first | omega ))) | apply zaS hT; (iterate 8 exact rfl); (iterate 2 omega); exact hOA | (apply zal; (iterate 5 exact rfl); exact zaY hT rfl rfl (hof.reads (by (repeat (first | exact mcs | apply mcm | apply mar)))) zaA.enc_len rfl hod2 rfl) | (apply zaI hT; (iterate 5 exact rfl); first | (fail_if_success (have q := g11)); intro g11) | (apply zaF hT; (iterate 6 exact rfl); (repeat (first | exact sel0 )); (iterate 3 exact rfl); exact nle rfl) | (apply zaz; (iterate 7 exact rfl); exact (zaB.perm (hDr _) (by unfold zap; (repeat (first | exact List.Perm.refl _ | (apply zaX; · (repeat (first | exact sel0 | apply selS ))) | (apply za0; · (repeat (first | exact zaP | apply zaT ))))))); rintro _ _ ⟨rfl, sp5, rfl⟩) | (apply zao (cs := [.int .i64 od.id, .int .i64 od.left]) hT; (iterate 12 exact rfl); intro g55) | (apply zaz; (iterate 7 exact rfl); exact (zbZ W _ g17 0 0 o4 o1 _ (some ⟨g55, 0, none⟩) 2 who 21 [od.id, od.left] (by (repeat (first | exact List.Perm.refl _ | (apply zaX; · (repeat (first | exact sel0 | apply selS ))) ))) (by (repeat (first | exact mcs ))) (Nat.le_of_ble_eq_true rfl) hbo); rintro _ _ ⟨rfl, o5, rfl⟩) | (apply zal; (iterate 5 exact rfl); first | (apply zaC hT; exact rfl; exact rfl; (repeat (first | exact mcs | apply mcm | apply mar)); exact rfl; exact rfl) ) | (apply zam; exact rfl; all_goals (intro hb; (try dsimp only at hb); (try simp only [hb]); (first | replace hb := odt hb | replace hb := odf hb ); (try omega))))
           all_goals try omega
           all_goals
            refine zaR (k + 1, o5, bks4.set i ⟨bd.p, sp5, zbu od.id l4⟩, zbu od.id l4, o1 ++ [outM who 21 [od.id, od.left]]) (by (try dsimp only); omega) ⟨by (try dsimp only); omega, hstk.symm, by dsimp only; rw [List.map_set, hb4, List.set_set], by dsimp only; rw [zfJ (b' := ⟨bd.p, sp5, zbu od.id l4⟩) hr1 rfl]; exact hp4, hB1.drop _, by dsimp only; rw [List.length_append]; show o1.length + 1 ≤ _; omega⟩ ⟨rfl, rfl, rfl, rfl, rfl, rfl, rfl, rfl, rfl, rfl, rfl, rfl, rfl, trivial⟩ ?_
            dsimp only
            unfold zap zai
            (repeat (first | exact zar | (apply zay; · (repeat (first | exact sel0 | apply selS | apply zbO))) | (apply za1; · (repeat (first | exact zaP | apply zaT ))) | apply zat))
          ·rw [if_neg hwo] at hstk
           unfold zap zai
           repeat' (first | apply zae | apply zaa | apply zah | apply zaf | apply zad | apply zab hT; iterate 4 exact rfl | (apply zaN hT; (iterate 4 exact rfl); (iterate 2 (first | omega ))) | apply zaS hT; (iterate 8 exact rfl); (iterate 2 omega); exact hOA | (apply zal; (iterate 5 exact rfl); exact zaY hT rfl rfl (hof.reads (by (repeat (first | exact mcs | apply mcm )))) zaA.enc_len rfl hod2 rfl) | (apply zaI hT; (iterate 5 exact rfl); first | (fail_if_success (have q := g11)); intro g11) | (apply zaF hT; (iterate 6 exact rfl); (repeat (first | exact sel0 )); (iterate 3 exact rfl); exact nle rfl) | (apply zal; (iterate 5 exact rfl); first | (apply zaC hT; exact rfl; exact rfl; (repeat (first | exact mcs )); exact rfl; exact rfl) ) | (apply zam; exact rfl; all_goals (intro hb; (try dsimp only at hb); (try simp only [hb]); (first | replace hb := odt hb | replace hb := odf hb ); (try omega))))
           all_goals try omega
           all_goals exact zaR (k + 1, o4, bks4, l4, o1) (by (try dsimp only); omega) ⟨by (try dsimp only); omega, hstk.symm, hb4, hp4, hB1, by dsimp only; omega⟩ ⟨rfl, rfl, rfl, rfl, rfl, rfl, rfl, rfl, rfl, rfl, rfl, rfl, rfl, trivial⟩ (by dsimp only; (repeat (first | exact zar | (apply zay; · (repeat (first | exact sel0 | apply selS ))) | (apply za1; · (repeat (first | exact zaP | apply zaT ))) | apply zat)))
         ·obtain rfl : k = os.length := by omega
          have hkc : decide ((os.length : Int) < (os.length : Int)) = false := by simp
          rw [List.take_length, ← hstj] at hke
          unfold zap zai
          repeat' (first | apply zae | apply zaa | apply zas | apply zad | apply zab hT; iterate 4 exact rfl | (apply zaN hT; (iterate 4 exact rfl); (iterate 2 (first | omega ))) | (apply zam; exact rfl; all_goals (intro hb; (try dsimp only at hb); (try simp only [hb]); (first | replace hb := odt hb | replace hb := odf hb ); (try omega))))
          all_goals try omega
          all_goals exact zaR (j + 1, o4, bks4, l1, o1) (by (try dsimp only); omega) ⟨by (try dsimp only); omega, hke, hb4, hp4, hB1, by dsimp only; omega⟩ ⟨rfl, rfl, rfl, rfl, rfl, rfl, rfl, rfl, rfl, rfl, trivial⟩ (by dsimp only; (repeat (first | exact zar | (apply zay; · (repeat (first | exact sel0 | apply selS ))) | (apply za1; · (repeat (first | exact zaP | apply zaT ))) | apply zat)))
      ·obtain rfl : j = 2 := by omega
       have hjc : decide ((2 : Int) < 2) = false := by decide
       rw [show ([1, 2] : List Int).take 2 = [1, 2] from rfl, hgk, ← hos] at hje
       obtain ⟨rfl, rfl⟩ := Prod.mk.inj hje
       rw [hbs] at hb3
       unfold zap zai
       repeat' (first | apply zae | apply zaa | apply zas | apply zad | apply zab hT; iterate 4 exact rfl | (apply zaN hT; (iterate 4 exact rfl); (iterate 2 (first | omega ))) | apply zag; iterate 2 exact rfl)
       all_goals try omega
       all_goals exact zaR (i + 1, o3, bks3) (by (try dsimp only); omega) ⟨by (try dsimp only); omega, by dsimp only; rw [hnx]; exact hb3, hp3, by dsimp only; rw [hno]; omega⟩ ⟨rfl, rfl, rfl, rfl, rfl, rfl, trivial⟩ (by dsimp only; rw [hnx, hno, ← hbs]; (repeat (first | exact zar | (apply zay; · (repeat (first | exact sel0 | apply selS ))) | (apply za1; · (repeat (first | exact zaP | apply zaT ))) | apply zat)))
   ·obtain rfl : i = s.books.length := by omega
    have hlc : decide ((s.books.length : Int) < (s.books.length : Int)) = false := by simp
    have hB0 : bksN who s.books s.books.length = s.books.map (zgt who) := by unfold bksN; rw [List.take_length, List.drop_length, List.append_nil]
    have hO0 : zfL who s.books s.books.length = s.books.flatMap fun l => (zdY who 1 l ++ zdY who 2 l).map fun o => outM who 21 [o.id, o.left] := by unfold zfL; rw [List.take_length]
    unfold zdC
    rw [← hO0]
    have hD1 : DOK N { s with books := s.books.map (zgt who) } := hD.books (by simp) (fun l hl => by
     obtain ⟨m, hm, rfl⟩ := List.mem_map.1 hl
     exact zec.2 (hD.bks m hm)) (fun l hl o ho => by
     obtain ⟨m, hm, rfl⟩ := List.mem_map.1 hl
     exact hD.bid m hm o (zec.1 o ho))
    rw [← hB0] at hD1 ⊢
    have hOf := fun G => zpE W G x.q x.quotes.A x.quotes.c s.quotes who hlq
    have hql : (s.quotes.filter (isOf who)).length ≤ 1000000 := Nat.le_trans (List.length_filter_le _ _) hlq
    generalize zfL who s.books s.books.length = O at *
    generalize s.quotes.filter (isOf who) = qs at *
    generalize bksN who s.books s.books.length = B at *
    have hf1 : za6 ({ s with books := B } : Dk) bks2 rows := ⟨hb2, hf.2⟩
    unfold zap zai
    repeat' (first | apply zae | apply zaa | apply zas | apply zaf | apply zad | apply zab hT; iterate 4 exact rfl | (apply zaz; (iterate 7 exact rfl); exact (zaB.perm (hOf _) (by (repeat (first | exact List.Perm.refl _ | (apply zaX; · (repeat (first | exact sel0 | apply selS ))) )))); rintro _ _ ⟨A6, c6, rfl, rfl, hof⟩) | (apply zal; (iterate 5 exact rfl); first | (apply zaC hT; exact rfl; exact rfl; (repeat (first | exact mcs | apply mcm )); exact rfl; exact rfl) ) | (apply zam; exact rfl; all_goals (intro hb; (try dsimp only at hb); (try simp only [hb]); (first | replace hb := odt hb | replace hb := odf hb ); (try omega))))
    all_goals try omega
    all_goals
     refine zbj (α := Nat × Sp) (E := fun z => [(0, ptrV x.d), (5, ptrV g17), (65, .slice A6 qs.length c6), (66, .int .i64 qs.length), (67, .int .i64 z.1)])
      (H := fun z => .own A6 qs.length c6 115 6 (qs.flatMap zaG.enc) :: zap g17 0 0 o2 O (zai { x with due := z.2 } ((qs.take z.1).foldl (zdc false) { s with books := B }) bks2 rows F)) (μ := fun z => qs.length - z.1)
      (S := fun z => z.1 ≤ qs.length) (0, x.due) (Nat.zero_le _) ⟨rfl, rfl, rfl, rfl, rfl, trivial⟩ ?_ ?_
     ·show zbk _ (.own A6 qs.length c6 115 6 (qs.flatMap zaG.enc) :: zap g17 0 0 o2 O (zai x { s with books := B } bks2 rows F))
      unfold zap zai
      (repeat (first | exact zar | (apply zay; · (repeat (first | exact sel0 | apply selS )))))
     ·rintro ⟨k, u⟩ hk
      dsimp only at hk ⊢
      have hDk : DOK N ((qs.take k).foldl (zdc false) { s with books := B }) := DOK.goneAll (qs.take k) (s := { s with books := B }) hD1
      by_cases hk2 : k < qs.length
      ·obtain ⟨q, hq⟩ : ∃ q, qs[k]? = some q := ⟨qs[k]'hk2, List.getElem?_eq_getElem hk2⟩
       have hq2 : qs[(k : Int).toNat]? = some q := by simpa using hq
       have hkc : decide ((k : Int) < (qs.length : Int)) = true := by simp; omega
       have hst : (qs.take (k + 1)).foldl (zdc false) { s with books := B } = zdc false ((qs.take k).foldl (zdc false) { s with books := B }) q := by
        rw [List.take_add_one, hq, List.foldl_append]; rfl
       generalize (qs.take k).foldl (zdc false) ({ s with books := B } : Dk) = st at *
       generalize hst2 : (qs.take (k + 1)).foldl (zdc false) ({ s with books := B } : Dk) = st2 at *
       have hla2 : st.asks.length ≤ 1000000 := by have := hDk.na; omega
       have hlq2 : st.quotes.length ≤ 1000000 := by have := hDk.nq; omega
       have hld2 : st.due.length ≤ 1000000 := by have := hDk.nd; omega
       have hLk := zfh W ({ x with due := u } : DAd) st q hDk.upa hla2
       have hKl := fun G => zfX W G x.q x.quotes.A x.quotes.c st.quotes q.id hlq2 hDk.upq
       have hDr := fun G => zfc W G x.u u.A u.c st.due 3 q.id hld2
       unfold zdc at hst
       refine zaU (hof.reads mem0) rfl (fun hQi => ?_)
       have hQA := hQi (by omega)
       cases hlk : zep st q
       ·rw [hlk] at hLk hst
        rw [if_neg (by decide)] at hst
        unfold zap zai
        repeat' (first | apply zae | apply zaa | apply zah | apply zaf | apply zad | apply zab hT; iterate 4 exact rfl | (apply zaN hT; (iterate 4 exact rfl); (iterate 2 (first | omega ))) | apply zaM [] [] hmix; decide +kernel | apply zaS hT; (iterate 8 exact rfl); (iterate 2 omega); exact hQA | (apply zal; (iterate 5 exact rfl); exact zaY hT rfl rfl (hof.reads (by (repeat (first | exact mcs | apply mcm )))) zaG.enc_len rfl hq2 rfl) | (apply zaI hT; (iterate 5 exact rfl); first | (fail_if_success (have q := g13)); intro g13) | (apply zaF hT; (iterate 6 exact rfl); (repeat (first | exact sel0 )); (iterate 3 exact rfl); exact nle rfl) | (apply zac; (iterate 7 exact rfl); exact (hLk.mono (zd0 (by (repeat (first | exact mcs | apply mcm ))) (by (repeat (first | exact mcs | apply mcm ))) (by (repeat (first | exact mcs | apply mcm )))))) | (apply zaz; (iterate 7 exact rfl); exact (zaB.perm (hKl _) (by (repeat (first | exact List.Perm.refl _ | (apply zaX; · (repeat (first | exact sel0 | apply selS ))) )))); rintro _ _ ⟨rfl, rfl⟩) | (apply zaz; (iterate 7 exact rfl); exact (zaB.perm (hDr _) (by (repeat (first | exact List.Perm.refl _ | (apply zaX; · (repeat (first | exact sel0 | apply selS ))) )))); rintro _ _ ⟨rfl, A7, c7, rfl⟩) | (apply zal; (iterate 5 exact rfl); first | (apply zaC hT; exact rfl; exact rfl; (repeat (first | exact mcs | apply mcm )); exact rfl; exact rfl) | (apply zaQ hT; exact rfl; exact rfl; (repeat (first | exact mcs )); exact rfl)) | (apply zak; iterate 2 exact rfl) | (apply zam; exact rfl; all_goals (intro hb; (try dsimp only at hb); (try simp only [hb]); (first | replace hb := odt hb | replace hb := odf hb ); (try omega))))
        all_goals try omega
        all_goals exact zaR (k + 1, ⟨A7, c7⟩) (by (try dsimp only); omega) (by (try dsimp only); omega) ⟨rfl, rfl, rfl, rfl, rfl, trivial⟩ (by dsimp only; rw [hst2, hst]; (repeat (first | exact zar | (apply zay; · (repeat (first | exact sel0 | apply selS ))) | (apply za1; · (repeat (first | exact zaP | apply zaT ))) | apply zat)))
       ·rw [hlk] at hLk hst
        rw [if_pos rfl] at hst
        unfold zap zai
        repeat' (first | apply zae | apply zaa | apply zah | apply zaf | apply zad | apply zab hT; iterate 4 exact rfl | (apply zaN hT; (iterate 4 exact rfl); (iterate 2 (first | omega ))) | apply zaS hT; (iterate 8 exact rfl); (iterate 2 omega); exact hQA | (apply zal; (iterate 5 exact rfl); exact zaY hT rfl rfl (hof.reads (by (repeat (first | exact mcs | apply mcm )))) zaG.enc_len rfl hq2 rfl) | (apply zaI hT; (iterate 5 exact rfl); first | (fail_if_success (have q := g13)); intro g13) | (apply zaF hT; (iterate 6 exact rfl); (repeat (first | exact sel0 )); (iterate 3 exact rfl); exact nle rfl) | (apply zac; (iterate 7 exact rfl); exact (hLk.mono (zd0 (by (repeat (first | exact mcs | apply mcm ))) (by (repeat (first | exact mcs | apply mcm ))) (by (repeat (first | exact mcs | apply mcm )))))) | (apply zal; (iterate 5 exact rfl); first | (apply zaQ hT; exact rfl; exact rfl; (repeat (first | exact mcs )); exact rfl)) | (apply zag; iterate 2 exact rfl) | (apply zam; exact rfl; all_goals (intro hb; (try dsimp only at hb); (try simp only [hb]); (first | replace hb := odt hb | replace hb := odf hb ); (try omega))))
        all_goals try omega
        all_goals exact zaR (k + 1, u) (by (try dsimp only); omega) (by (try dsimp only); omega) ⟨rfl, rfl, rfl, rfl, rfl, trivial⟩ (by dsimp only; rw [hst2, hst]; (repeat (first | exact zar | (apply zay; · (repeat (first | exact sel0 | apply selS ))) | (apply za1; · (repeat (first | exact zaP | apply zaT ))) | apply zat)))
      ·obtain rfl : k = qs.length := by omega
       have hkc : decide ((qs.length : Int) < (qs.length : Int)) = false := by simp
       rw [List.take_length] at *
       have hbk := zg0 qs ({ s with books := B } : Dk)
       generalize qs.foldl (zdc false) ({ s with books := B } : Dk) = st at *
       have hf2 : za6 st bks2 rows := ⟨by rw [hbk.1]; exact hf1.1, by rw [hbk.2]; exact hf1.2⟩
       unfold zap zai
       repeat' (first | apply zae | apply zaa | apply zaj | apply zas | apply zad | apply zab hT; iterate 4 exact rfl | (apply zal; (iterate 5 exact rfl); first | (apply zaC hT; exact rfl; exact rfl; (repeat (first | exact mcs | apply mcm )); exact rfl; exact rfl) ) | (apply zam; exact rfl; all_goals (intro hb; (try dsimp only at hb); (try simp only [hb]); (first | replace hb := odt hb | replace hb := odf hb ); (try omega))))
       all_goals try omega
       all_goals (apply ret1; exact rfl; exact ⟨.own o2.A O.length o2.c 45 8 (O.flatMap OutR.enc) :: zai (({ x with due := u } : DAd).at x.d) st bks2 rows F, by (unfold zai; (repeat (first | exact zar | (apply zay; · (repeat (first | exact sel0 | apply selS ))) | (apply za1; · (repeat (first | exact zaP | apply zaT ))) | apply zat))), fun w hw => ⟨{ x with due := u }, bks2, rows, _, _, rfl, rfl, hf2, hw.ownF mem0⟩⟩)
end Go.Proofs.YtakilgkpfjhfdaaGreat
namespace Go.Sl
open Go
section
variable {P : Program} {W : World} {T : Tab} {N : Nat} {env : Env} {h : List zax} {kf : KF} {ops : Array Oper} {K : Env → List zax → Prop} {rest : List Oper}
theorem zlj (hT : zbB P T) {b : Bool} {d : Tmp} {ty pos af g} {t e : TypeId} {ti te : TI} {x ix : Operand} {ad : Addr} {len : Nat} {i : Int} {k : IntKind} (hg : zbC ops env g = some b) (hb : b = true) (hd : Nat.blt d N = true)
 (ht : T.lookup t = some ti) (htd : ti.desc = .array len e) (hte : T.lookup e = some te) (hx : za8 env x = some (.pointer (some ad))) (hi : za8 env ix = some (.int k i)) (h0 : 0 ≤ i) (h1 : i < len)
 (hK : ES P W N kf ops rest ((d, .pointer (some (ad.add (i.toNat * te.size)))) :: env) h K) : ES P W N kf ops (⟨some d, .indexAddr t x ix, ty, pos, af, g⟩ :: rest) env h K :=
 zb6 hg hb hd (fun a ha w => by
  have g1 := hT _ _ ht
  have g2 := hT _ _ hte
  have hu := g1.1
  rw [htd] at hu
  simp [execOp, ha.eval hx, ha.eval hi, Instr.indexAt, Instr.sureAddr, asIntOf, run_underlying hu, h0, h1, g2.sz]) hK
end
end Go.Sl
namespace Go.Proofs.YtakilgkpfjhfdaaGreat
open Go Go.Sl
attribute [local irreducible] AW ES EP Ld RetQ
set_option maxRecDepth 100000
/-! ### rules -/
def wayB (w : Int) : List za3 := if w = 1 then [kb2] else if w = 2 then [kb2, kb1] else [kb1, kb2]
def wayP (w : Int) : List zaV := if w = 3 then kps ++ [⟨1, 12, 0⟩, ⟨2, 0, 0⟩] else kps
def wayL (w : Int) : Int := if w = 1 then 1 else 3
def zm7 (w : Int) : Int := if w = 2 then 4 else 50
def wayD (w : Int) : Dk := zeI (wayB w) (wayP w) (wayL w) (zm7 w)
theorem wayR {w : Int} (hw : w = 0 ∨ w = 1 ∨ w = 2 ∨ w = 3) : isR (wayB w) (wayP w) (wayL w) (zm7 w) = true := by
 rcases hw with rfl | rfl | rfl | rfl <;> decide +kernel
def zm8 (h : List zax) (w : Int) (v : Value) (h' : List zax) : Prop :=
 ∃ A1 c1 A2 c2, v = ze5 A1 (wayB w).length c1 A2 (wayP w).length c2 (wayL w) (zm7 w) ∧ h' = .own A1 (wayB w).length c1 79 7 ((wayB w).flatMap za3.enc) :: .own A2 (wayP w).length c2 82 3 ((wayP w).flatMap zaV.enc) :: h
set_option maxHeartbeats 4000000 in
theorem zdn (W : World) (h : List zax) (way w : Int) (hw : bitI .and .i64 way 3 = w) (hw4 : w = 0 ∨ w = 1 ∨ w = 2 ∨ w = 3) : zaB Tryz.prog W 14 [.int .i64 way] h (zm8 h w) := by
 refine zaB.dropTo ?_
 refine zan Tryz.func14 rfl rfl Tryz.results14 Tryz.ntmps14 rfl rfl ?_
 rcases hw4 with rfl | rfl | rfl | rfl
 ·skip
  repeat' (first | apply zae | apply zaa | apply zaj | apply zah | apply zaf | apply zad | apply zab hT; iterate 4 exact rfl | apply zaO hT (cs := za3.enc kb1); iterate 4 exact rfl | apply zaO hT (cs := za3.enc kb2); iterate 4 exact rfl | apply zaO hT (cs := zaV.enc ⟨1, 12, 0⟩); iterate 4 exact rfl | apply zaO hT (cs := zaV.enc ⟨1, 4, 0⟩); iterate 4 exact rfl | apply zaO hT (cs := zaV.enc ⟨2, 0, 100000⟩); iterate 4 exact rfl | apply zaO hT (cs := zaV.enc ⟨2, 0, 3000⟩); iterate 4 exact rfl | apply zaO hT (cs := zaV.enc ⟨3, 0, 0⟩); iterate 4 exact rfl | (apply zao hT; (iterate 12 exact rfl); first | (fail_if_success (have q := g10)); intro g10 | (fail_if_success (have q := g16)); intro g16) | (apply zaO hT (cs := (ze5 (some ⟨g10, 0, none⟩) 2 2 (some ⟨g16, 0, none⟩) 5 5 3 50).cells.toList); iterate 4 exact rfl) | (apply zcZ; (iterate 6 exact rfl); exact hw) | (apply zaF hT; (iterate 6 exact rfl); (repeat (first | exact sel0 | apply selS )); (iterate 3 exact rfl); exact nle rfl) | (apply zal; (iterate 5 exact rfl); first | (apply zaQ hT; exact rfl; exact rfl; (repeat (first | exact mcs | apply mcm )); exact rfl)) | (apply zaI hT; (iterate 5 exact rfl); intro _) | (apply zag; iterate 2 exact rfl))
  all_goals (apply zg5; exact rfl; (apply zaQ hT; exact rfl; exact rfl; (repeat (first | exact mcs)); exact rfl); exact ⟨_, by show zbk _ (.own (some ⟨g10, 0, none⟩) 2 2 79 7 ((wayB 0).flatMap za3.enc) :: .own (some ⟨g16, 0, none⟩) 5 5 82 3 ((wayP 0).flatMap zaV.enc) :: h); (repeat (first | exact zar | (apply zay; · (repeat (first | exact sel0 | apply selS ))) | apply zat)), _, _, _, _, rfl, rfl⟩)
 ·skip
  repeat' (first | apply zae | apply zaa | apply zaj | apply zaf | apply zad | apply zab hT; iterate 4 exact rfl | apply zaO hT (cs := za3.enc kb1); iterate 4 exact rfl | apply zaO hT (cs := za3.enc kb2); iterate 4 exact rfl | apply zaO hT (cs := zaV.enc ⟨1, 12, 0⟩); iterate 4 exact rfl | apply zaO hT (cs := zaV.enc ⟨1, 4, 0⟩); iterate 4 exact rfl | apply zaO hT (cs := zaV.enc ⟨2, 0, 100000⟩); iterate 4 exact rfl | apply zaO hT (cs := zaV.enc ⟨2, 0, 3000⟩); iterate 4 exact rfl | apply zaO hT (cs := zaV.enc ⟨3, 0, 0⟩); iterate 4 exact rfl | (apply zao hT; (iterate 12 exact rfl); first | (fail_if_success (have q := g10)); intro g10 | (fail_if_success (have q := g16)); intro g16 | intro g39) | (apply zaO hT (cs := (ze5 (some ⟨g10, 0, none⟩) 2 2 (some ⟨g16, 0, none⟩) 5 5 3 50).cells.toList); iterate 4 exact rfl) | (apply zcZ; (iterate 6 exact rfl); exact hw) | (apply zaF hT; (iterate 6 exact rfl); (repeat (first | exact sel0 | apply selS )); (iterate 3 exact rfl); exact nle rfl) | (apply zal; (iterate 5 exact rfl); first | (apply zaQ hT; exact rfl; exact rfl; (repeat (first | exact mcs | apply mcm )); exact rfl)) | (apply zaI hT; (iterate 5 exact rfl); intro _) | (apply zak; iterate 2 exact rfl))
  all_goals (apply zg5; exact rfl; (apply zaQ hT; exact rfl; exact rfl; (repeat (first | exact mcs)); exact rfl); exact ⟨_, by show zbk _ (.own (some ⟨g39, 0, none⟩) 1 1 79 7 ((wayB 1).flatMap za3.enc) :: .own (some ⟨g16, 0, none⟩) 5 5 82 3 ((wayP 1).flatMap zaV.enc) :: h); (repeat (first | exact zar | (apply zay; · (repeat (first | exact sel0 | apply selS ))) | apply zat)), _, _, _, _, rfl, rfl⟩)
 ·skip
  repeat' (first | apply zae | apply zaa | apply zaj | apply zaf | apply zad | apply zab hT; iterate 4 exact rfl | apply zaO hT (cs := za3.enc kb1); iterate 4 exact rfl | apply zaO hT (cs := za3.enc kb2); iterate 4 exact rfl | apply zaO hT (cs := zaV.enc ⟨1, 12, 0⟩); iterate 4 exact rfl | apply zaO hT (cs := zaV.enc ⟨1, 4, 0⟩); iterate 4 exact rfl | apply zaO hT (cs := zaV.enc ⟨2, 0, 100000⟩); iterate 4 exact rfl | apply zaO hT (cs := zaV.enc ⟨2, 0, 3000⟩); iterate 4 exact rfl | apply zaO hT (cs := zaV.enc ⟨3, 0, 0⟩); iterate 4 exact rfl | (apply zao hT; (iterate 12 exact rfl); first | (fail_if_success (have q := g10)); intro g10 | (fail_if_success (have q := g16)); intro g16 | intro g39) | (apply zaO hT (cs := (ze5 (some ⟨g10, 0, none⟩) 2 2 (some ⟨g16, 0, none⟩) 5 5 3 50).cells.toList); iterate 4 exact rfl) | (apply zcZ; (iterate 6 exact rfl); exact hw) | (apply zaF hT; (iterate 6 exact rfl); (repeat (first | exact sel0 | apply selS )); (iterate 3 exact rfl); exact nle rfl) | (apply zal; (iterate 5 exact rfl); first | (apply zaQ hT; exact rfl; exact rfl; (repeat (first | exact mcs | apply mcm )); exact rfl)) | (apply zaI hT; (iterate 5 exact rfl); intro _) | (apply zak; iterate 2 exact rfl) | (apply zag; iterate 2 exact rfl))
  all_goals (apply zg5; exact rfl; (apply zaQ hT; exact rfl; exact rfl; (repeat (first | exact mcs)); exact rfl); exact ⟨_, by show zbk _ (.own (some ⟨g39, 0, none⟩) 2 2 79 7 ((wayB 2).flatMap za3.enc) :: .own (some ⟨g16, 0, none⟩) 5 5 82 3 ((wayP 2).flatMap zaV.enc) :: h); (repeat (first | exact zar | (apply zay; · (repeat (first | exact sel0 | apply selS ))) | apply zat)), _, _, _, _, rfl, rfl⟩)
 ·skip
  repeat' (first | apply zae | apply zaa | apply zaj | apply zaf | apply zad | apply zab hT; iterate 4 exact rfl | apply zaO hT (cs := za3.enc kb1); iterate 4 exact rfl | apply zaO hT (cs := za3.enc kb2); iterate 4 exact rfl | apply zaO hT (cs := zaV.enc ⟨1, 12, 0⟩); iterate 4 exact rfl | apply zaO hT (cs := zaV.enc ⟨1, 4, 0⟩); iterate 4 exact rfl | apply zaO hT (cs := zaV.enc ⟨2, 0, 100000⟩); iterate 4 exact rfl | apply zaO hT (cs := zaV.enc ⟨2, 0, 3000⟩); iterate 4 exact rfl | apply zaO hT (cs := zaV.enc ⟨3, 0, 0⟩); iterate 4 exact rfl | apply zaO hT (cs := zaV.enc ⟨2, 0, 0⟩); iterate 4 exact rfl | (apply zao hT; (iterate 12 exact rfl); first | (fail_if_success (have q := g10)); intro g10 | (fail_if_success (have q := g16)); intro g16 | intro g39) | (apply zaO hT (cs := (ze5 (some ⟨g10, 0, none⟩) 2 2 (some ⟨g16, 0, none⟩) 5 5 3 50).cells.toList); iterate 4 exact rfl) | (apply zcZ; (iterate 6 exact rfl); exact hw) | (apply zaF hT; (iterate 6 exact rfl); (repeat (first | exact sel0 | apply selS )); (iterate 3 exact rfl); exact nle rfl) | (apply zbg hT; (iterate 10 exact rfl); (repeat (first | exact sel0 | apply selS )); exact zaJ.own mem0 rfl (List.all_eq_true.1 rfl); exact nle rfl; exact nle rfl; intro A' c') | (apply zal; (iterate 5 exact rfl); first | (apply zaC hT; exact rfl; exact rfl; (repeat (first | exact mcs )); exact rfl; exact rfl) | (apply zaQ hT; exact rfl; exact rfl; (repeat (first | exact mcs | apply mcm )); exact rfl)) | (apply zaI hT; (iterate 5 exact rfl); intro _) | (apply zak; iterate 2 exact rfl) | (apply zag; iterate 2 exact rfl))
  all_goals (apply zg5; exact rfl; (apply zaQ hT; exact rfl; exact rfl; (repeat (first | exact mcs)); exact rfl); exact ⟨_, by show zbk _ (.own (some ⟨g10, 0, none⟩) 2 2 79 7 ((wayB 3).flatMap za3.enc) :: .own A' 7 c' 82 3 ((wayP 3).flatMap zaV.enc) :: h); (repeat (first | exact zar | (apply zay; · (repeat (first | exact sel0 | apply selS ))) | apply zat)), _, _, _, _, rfl, rfl⟩)
theorem zcq (W : World) (h : List zax) (w : Int) (hw4 : w = 0 ∨ w = 1 ∨ w = 2 ∨ w = 3) (A1 A2 : Option Addr) (c1 c2 : Nat) (m1 : zax.own A1 (wayB w).length c1 79 7 ((wayB w).flatMap za3.enc) ∈ h) (m2 : zax.own A2 (wayP w).length c2 82 3 ((wayP w).flatMap zaV.enc) ∈ h) :
 zaB Tryz.prog W 13 [ze5 A1 (wayB w).length c1 A2 (wayP w).length c2 (wayL w) (zm7 w)] h (fun v h' => ∃ x bks rows, v = ptrV x.d ∧ h' = zai x (wayD w) bks rows h ∧ za6 (wayD w) bks rows) := by
 have hl : (wayB w).length ≤ 1000000 ∧ (wayP w).length ≤ 1000000 := by rcases hw4 with rfl | rfl | rfl | rfl <;> exact ⟨Nat.le_of_ble_eq_true rfl, Nat.le_of_ble_eq_true rfl⟩
 refine (zn0 W h A1 c1 (wayB w) A2 c2 (wayP w) (wayL w) (zm7 w) (zaJ.enc za3.enc_len za3.enc_one m1 rfl) (zaJ.enc zaV.enc_len zaV.enc_one m2 rfl) hl.1 hl.2).mono ?_
 rintro v h' (⟨a, _⟩ | ⟨_, b⟩)
 ·rw [wayR hw4] at a; cases a
 ·exact b
/-! ### what is told first -/
def zbG (o : List OutR) : Int := match o with
 | [] => -1
 | x :: r => if x.msg.kind = 18 then 0 else if x.msg.kind = 19 ∧ r = [] then x.msg.f1 else -1
set_option maxHeartbeats 1000000 in
theorem zhM (W : World) (h : List zax) (A : Option Addr) (c : Nat) (o : List OutR) (hr : zaJ W h A o.length 8 (o.flatMap OutR.enc)) : zaL Tryz.prog W 16 [.slice A o.length c] h (.int .i64 (zbG o)) := by
 refine zaL.ofD (fun h' hs => ?_)
 have hrd := hr.mono hs
 refine zan Tryz.func16 rfl rfl Tryz.results16 Tryz.ntmps16 rfl rfl ?_
 refine zaU hrd rfl (fun hAi => ?_)
 rcases o with _ | ⟨x, r⟩
 ·repeat' (first | apply zae | apply zaa | apply zaj | apply zaf | apply zad | apply zab hT; iterate 4 exact rfl | apply zak; iterate 2 exact rfl)
  all_goals first
   | (exfalso; omega)
   | (apply ret1; exact rfl; exact ⟨rfl, by (repeat (first | exact zar))⟩)
   | skip
 ·have hA := hAi (Nat.succ_pos _)
  have hx : (x :: r)[(0 : Int).toNat]? = some x := rfl
  have hx1 : (x :: r)[(0 : Int).toNat]? = some x := rfl
  unfold zbG
  rcases r with _ | ⟨y, r⟩
  all_goals
   simp only [List.length_cons, List.length_nil] at *
   repeat' (first | apply zae | apply zaa | apply zaj | apply zah | apply zaf | apply zad | apply zab hT; iterate 4 exact rfl | apply zaq; iterate 3 exact rfl | apply zaS hT; (iterate 8 exact rfl); (iterate 2 omega); exact hA | (apply zal; (iterate 5 exact rfl); first | exact zbb hT rfl rfl hrd OutR.enc_len (by rw [zaW, zaW]; rfl) hx (f := 1) (by decide) rfl | exact zbb hT rfl rfl hrd OutR.enc_len (by rw [zaW, zaW, zaW]; rfl) hx (f := 3) (by decide) rfl) | apply zlj hT; (iterate 8 exact rfl); (iterate 2 omega) | apply zak; iterate 2 exact rfl | apply zag; iterate 2 exact rfl | (apply zav; exact rfl; all_goals (intro hb; (fail_if_success (change true = true at hb)); (fail_if_success (change false = false at hb)); (try dsimp only at hb); (try simp only [hb]); (first | replace hb := odt hb | replace hb := odf hb ); (try omega))) | (apply zam; exact rfl; all_goals (intro hb; (try dsimp only at hb); (try simp only [hb]); (first | replace hb := odt hb | replace hb := odf hb ); (try omega))))
   all_goals first
    | (exfalso; omega)
    | (apply ret1; exact rfl; exact ⟨by (first | simp [*]; done), by (repeat (first | exact zar))⟩)
    | skip
structure zlk where
 kind : Int
 who : Int
 n : Int
 msg : MsgR
def zlk.enc (a : zlk) : List Value := [.int .i64 a.kind, .int .i64 a.who, .int .i64 a.n] ++ a.msg.enc
theorem zlk.enc_len (a : zlk) : a.enc.length = 10 := rfl
def zlk.ok (a : zlk) : Prop := MsgW a.msg
def zbR : Nat → Dk → Dk × List OutR
 | 0, s => (s, [])
 | k + 1, s => ((zcB false (zbR k s).1).1, (zbR k s).2 ++ (zcB false (zbR k s).1).2)
theorem zik {N : Nat} {s : Dk} (hD : DOK N s) (hO : OwnI s) : ∀ k, DOK (N + k) (zbR k s).1 ∧ OwnI (zbR k s).1
 | 0 => ⟨hD, hO⟩
 | k + 1 => by
   obtain ⟨h1, h2⟩ := zik hD hO k
   exact ⟨h1.tick, h2.tick⟩
end Go.Proofs.YtakilgkpfjhfdaaGreat
namespace Go.Sl
open Go Go.RowKit
def zm9 (f : TypeId → Value → Value → Option Bool) (T : Tab) (xs ys : List Value) : List Field → Option Bool
 | [] => some true
 | g :: fs => if g.name = "_" then none else
   match zjf T g.type xs g.offset, zjf T g.type ys g.offset with
   | some u, some v => match f g.type u v, zm9 f T xs ys fs with
     | some a, some b => some (a && b)
     | _, _ => none
   | _, _ => none
def zna (f : Value → Value → Option Bool) (T : Tab) (e : TypeId) (c : Nat) (xs ys : List Value) : List Nat → Option Bool
 | [] => some true
 | i :: is => match zjf T e xs (i * c), zjf T e ys (i * c) with
   | some u, some v => match f u v, zna f T e c xs ys is with
     | some a, some b => some (a && b)
     | _, _ => none
   | _, _ => none
def eqT (T : Tab) (hd : List TypeId) : Nat → TypeId → Value → Value → Option Bool
 | 0, _, _, _ => none
 | n + 1, t, x, y => match T.lookup t with
   | some ⟨.int _, _, _, _⟩ => (match x, y with
     | .int k a, .int k' b => if k = k' then some (a == b) else none
     | _, _ => none)
   | some ⟨.bool, _, _, _⟩ => (match x, y with
     | .bool a, .bool b => some (a == b)
     | _, _ => none)
   | some ⟨.struct fs, _, _, _⟩ => (match x, y with
     | .agg xs, .agg ys => if hd.contains t then zm9 (eqT T hd n) T xs.toList ys.toList fs.toList else none
     | _, _ => none)
   | some ⟨.array len e, _, _, _⟩ => (match x, y with
     | .agg xs, .agg ys => (match T.lookup e with
       | some te => zna (eqT T hd n e) T e te.size xs.toList ys.toList (List.range len)
       | none => none)
     | _, _ => none)
   | _ => none
section
variable {P : Program} {W : World} {T : Tab} {N : Nat} {env : Env} {h : List zax} {kf : KF} {ops : Array Oper} {K : Env → List zax → Prop} {rest : List Oper}
theorem zi9 (hT : zbB P T) {f : TypeId → Value → Value → Option Bool} {m : Nat} (hf : ∀ t x y b, f t x y = some b → ∀ w, (Op.equalIn m t x y).run P w = .ok b w) {xs ys : Array Value} :
 ∀ {fs : List Field} {b : Bool}, zm9 f T xs.toList ys.toList fs = some b → ∀ w : World, (Op.eqFields m xs ys fs).run P w = .ok b w
 | [], b, he, w => by simp [zm9] at he; simp [Op.eqFields, he]
 | g :: fs, b, he, w => by
   unfold zm9 at he
   split at he
   ·cases he
   ·rename_i hn
    split at he
    ·rename_i u v hu hv
     split at he
     ·rename_i a1 b1 h1 h2
      injection he with he
      subst he
      have h3 := hf _ _ _ _ h1 w
      have ih := zi9 hT hf h2 w
      have p1 := zeX hT hu w
      have p2 := zeX hT hv w
      unfold Op.eqFields
      rw [if_pos hn]
      simp only [Sem.run_bind, p1, p2, Result.andThen_ok, h3]
      cases a1
      ·simp
      ·simp [ih]
     ·cases he
    ·cases he
theorem zja (hT : zbB P T) {f : Value → Value → Option Bool} {m c : Nat} {e : TypeId} (hf : ∀ x y b, f x y = some b → ∀ w, (Op.equalIn m e x y).run P w = .ok b w) {xs ys : Array Value} :
 ∀ {is : List Nat} {b : Bool}, zna f T e c xs.toList ys.toList is = some b → ∀ w : World, (Op.eqItems m e c xs ys is).run P w = .ok b w
 | [], b, he, w => by simp [zna] at he; simp [Op.eqItems, he]
 | i :: is, b, he, w => by
   unfold zna at he
   split at he
   ·rename_i u v hu hv
    split at he
    ·rename_i a1 b1 h1 h2
     injection he with he
     subst he
     have h3 := hf _ _ _ h1 w
     have ih := zja hT hf h2 w
     have p1 := zeX hT hu w
     have p2 := zeX hT hv w
     unfold Op.eqItems
     simp only [Sem.run_bind, p1, p2, Result.andThen_ok, h3]
     cases a1
     ·simp
     ·simp [ih]
    ·cases he
   ·cases he
theorem zil (hT : zbB P T) {hd : List TypeId} (hs : ∀ t ∈ hd, P.stoodInHeld t = false) : ∀ (n : Nat) (t : TypeId) (x y : Value) (b : Bool), eqT T hd n t x y = some b → ∀ (d : Nat) (w : World), (Op.equalIn (d + n) t x y).run P w = .ok b w
 | 0, t, x, y, b, he, d, w => by simp [eqT] at he
 | n + 1, t, x, y, b, he, d, w => by
   unfold eqT at he
   split at he
   ·rename_i k s bb z hl
    have g := (hT _ _ hl).und
    split at he
    ·split at he
     ·rename_i hk
      injection he with he
      subst he hk
      rw [show d + (n + 1) = (d + n) + 1 by omega, Op.equalIn]
      simp only [Sem.run_bind, g, Result.andThen_ok, if_true, Sem.run_pure]
     ·cases he
    ·cases he
   ·rename_i s bb z hl
    have g := (hT _ _ hl).und
    split at he
    ·injection he with he
     subst he
     rw [show d + (n + 1) = (d + n) + 1 by omega, Op.equalIn]
     simp only [Sem.run_bind, g, Result.andThen_ok, Sem.run_pure]
    ·cases he
   ·rename_i fs s bb z hl
    split at he
    ·rename_i xs ys
     split at he
     ·rename_i hc
      have hu : P.underlying t = some (.struct fs) := (hT _ _ hl).1
      have hf : P.fieldsOf t = fs := by simp [Program.fieldsOf, hu]
      rw [show d + (n + 1) = (d + n) + 1 by omega, run_equalIn_struct w (d + n) t xs ys (by rw [hf]; exact hu) (hs t (by simpa using hc)), hf]
      exact zi9 hT (fun t x y b h w => zil hT hs n t x y b h d w) he w
     ·cases he
    ·cases he
   ·rename_i len e s bb z hl
    split at he
    ·rename_i xs ys
     split at he
     ·rename_i te hte
      have hu : P.underlying t = some (.array len e) := (hT _ _ hl).1
      obtain ⟨_, i, hi, h1, _⟩ := hT _ _ hte
      have hc : P.cellsOf e = te.size := by simp [Program.cellsOf, hi, h1]
      rw [show d + (n + 1) = (d + n) + 1 by omega, run_equalIn_array w (d + n) xs ys hu hi, hc]
      exact zja hT (fun x y b h w => zil hT hs n e x y b h d w) he w
     ·cases he
    ·cases he
   ·cases he
theorem znb (hT : zbB P T) {b r : Bool} {n : Nat} {hd : List TypeId} {d : Tmp} {t yt : TypeId} {x y : Operand} {xs ys : Array Value} {ty pos af g} (hg : zbC ops env g = some b) (hb : b = true) (hd' : Nat.blt d N = true) (hx : za8 env x = some (.agg xs)) (hy : za8 env y = some (.agg ys)) (he : eqT T hd n t (.agg xs) (.agg ys) = some r) (hn : n ≤ 10000) (hs : ∀ t ∈ hd, P.stoodInHeld t = false) (hm : P.eqGuardType P.depth t = false)
 (hK : ES P W N kf ops rest ((d, .bool r) :: env) h K) : ES P W N kf ops (⟨some d, .binOp .eql t x y yt, ty, pos, af, g⟩ :: rest) env h K :=
 zb6 hg hb hd' (fun a ha w => by
  have h1 := zil hT hs n t _ _ r he (10000 - n) w
  rw [show 10000 - n + n = 10000 by omega] at h1
  simp only [execOp, ha.eval hx, ha.eval hy, Sem.run_bind, run_eqGuard_agg w .eql t x y xs ys hm, Result.andThen_ok, run_eql_struct, h1, Sem.run_pure]) hK
theorem zpP (hT : zbB P T) {b r : Bool} {n : Nat} {hd : List TypeId} {d : Tmp} {t yt : TypeId} {x y : Operand} {xs ys : Array Value} {ty pos af g} (hg : zbC ops env g = some b) (hb : b = true) (hd' : Nat.blt d N = true) (hx : za8 env x = some (.agg xs)) (hy : za8 env y = some (.agg ys)) (he : eqT T hd n t (.agg xs) (.agg ys) = some r) (hn : n ≤ 10000) (hs : ∀ t ∈ hd, P.stoodInHeld t = false) (hm : P.eqGuardType P.depth t = false)
 (hK : ES P W N kf ops rest ((d, .bool (!r)) :: env) h K) : ES P W N kf ops (⟨some d, .binOp .neq t x y yt, ty, pos, af, g⟩ :: rest) env h K :=
 zb6 hg hb hd' (fun a ha w => by
  have h1 := zil hT hs n t _ _ r he (10000 - n) w
  rw [show 10000 - n + n = 10000 by omega] at h1
  simp only [execOp, ha.eval hx, ha.eval hy, Sem.run_bind, run_eqGuard_agg w .neq t x y xs ys hm, Result.andThen_ok, run_neq_struct, h1, Sem.run_pure]) hK
end
end Go.Sl
namespace Go.Proofs.YtakilgkpfjhfdaaGreat
open Go Go.Sl
set_option maxRecDepth 100000
theorem zkt : zhU Tryz.prog 45 := ⟨by kernel_rfl, by kernel_rfl⟩
theorem zpQ : zhU Tryz.prog 25 := ⟨by kernel_rfl, by kernel_rfl⟩
theorem znc : ∀ t ∈ [45, 25], Program.stoodInHeld Tryz.prog t = false := fun t ht => by
 rcases List.mem_cons.1 ht with rfl | ht
 ·exact zkt.1
 ·rw [List.mem_singleton.1 ht]; exact zpQ.1
def msgB (a b : MsgR) : Bool := (a.kind == b.kind) && (((a.f0 == b.f0) && ((a.f1 == b.f1) && ((a.f2 == b.f2) && ((a.f3 == b.f3) && ((a.f4 == b.f4) && ((a.f5 == b.f5) && true)))))) && true)
theorem zpi (a b : MsgR) : msgB a b = decide (a = b) := by
 cases a; cases b
 unfold msgB
 rw [Bool.eq_iff_iff]
 simp only [Bool.and_eq_true, beq_iff_eq, decide_eq_true_eq, MsgR.mk.injEq, and_true]
theorem zpR (a b : OutR) : eqT TT [45, 25] 5 45 (.agg a.enc.toArray) (.agg b.enc.toArray) = some (decide (a = b)) := by
 have h : eqT TT [45, 25] 5 45 (.agg a.enc.toArray) (.agg b.enc.toArray) = some ((a.to == b.to) && (msgB a.msg b.msg && true)) := rfl
 rw [h, zpi]
 cases a; cases b
 rw [Option.some.injEq, Bool.eq_iff_iff]
 simp only [Bool.and_eq_true, beq_iff_eq, decide_eq_true_eq, OutR.mk.injEq, and_true]
end Go.Proofs.YtakilgkpfjhfdaaGreat
namespace Go.Proofs.YtakilgkpfjhfdaaGreat
open Go Go.Sl
attribute [local irreducible] AW ES EP Ld RetQ
set_option maxRecDepth 100000
theorem zim {N : Nat} {s : Dk} (hD : DOK N s) {who seq : Int} {m : MsgR} : (doD false s who seq m).2.length ≤ 1000001 := by
 have h := zi6 hD (who := who) (m := m)
 unfold doD
 dsimp only
 split
 ·show 1 ≤ _; omega
 ·rw [List.length_cons]; omega
def sto1 (s : Dk) : Dk × List OutR := doD false s 0 1 (zaw 9 [0, 1, 10, 12, 20])
def sto2 (s : Dk) : Dk × List OutR := doD false (sto1 s).1 2 1 (zaw 10 [1, 100, 10])
def sto3 (s : Dk) : Dk × List OutR := doD false (sto2 s).1 3 1 (zaw 10 [1, 105, 10])
def sto4 (s : Dk) : Dk × List OutR := doD false (sto3 s).1 0 2 (zaw 12 [1])
def zbi (s : Dk) : Dk × List OutR := ((sto4 s).1, (sto1 s).2 ++ (sto2 s).2 ++ (sto3 s).2 ++ (sto4 s).2)
theorem zfl {N : Nat} {s : Dk} (hD : DOK N s) (hO : OwnI s) : DOK (N + 4) (zbi s).1 ∧ OwnI (zbi s).1 := by
 have h1 := hD.do' (rf := false) 0 1 (zaw 9 [0, 1, 10, 12, 20])
 have o1 := hO.do' (rf := false) hD 0 1 (zaw 9 [0, 1, 10, 12, 20])
 have h2 := h1.do' (rf := false) 2 1 (zaw 10 [1, 100, 10])
 have o2 := o1.do' (rf := false) h1 2 1 (zaw 10 [1, 100, 10])
 have h3 := h2.do' (rf := false) 3 1 (zaw 10 [1, 105, 10])
 have o3 := o2.do' (rf := false) h2 3 1 (zaw 10 [1, 105, 10])
 exact ⟨h3.do' (rf := false) 0 2 (zaw 12 [1]), o3.do' (rf := false) h3 0 2 (zaw 12 [1])⟩
theorem zeU {k : Int} {l : List Int} (h : ∀ n ∈ l, inW n) : MsgW (zaw k l) := by
 have h0 : inW 0 := by unfold inW; omega
 have key : ∀ i, inW (l.getD i 0) := fun i => by
  rw [List.getD_eq_getElem?_getD]
  rcases hx : l[i]? with _ | x
  ·exact h0
  ·exact h x (List.mem_of_getElem? hx)
 exact ⟨key 0, key 1, key 2, key 3, key 4, key 5⟩
theorem ofL (W : World) (h : List zax) (g : Nat) (n : Nat) (kind : Int) (ns : List Int) (hm : zax.own (some ⟨g, 0, none⟩) n n 2 1 (ns.map (Value.int .i64)) ∈ h) (hn : ns.length = n) (hl : n ≤ 6) :
 zaL Tryz.prog W 12 [.int .i64 kind, .slice (some ⟨g, 0, none⟩) n n] h (.agg (zaw kind ns).enc.toArray) := by
 subst hn
 exact zmH W h (some ⟨g, 0, none⟩) ns.length kind ns (zaJ.ints hm rfl) hl
set_option maxHeartbeats 8000000 in
theorem zg1 (W : World) (F : List zax) (x : DAd) (s : Dk) (bks : List BAd) (rows : List PRow) (N : Nat) (hD : DOK N s) (hO : OwnI s) (hN : N ≤ 9000) (hf : za6 s bks rows) :
 zaB Tryz.prog W 18 [ptrV x.d] (zai x s bks rows F) (zgX x F (zbi s)) := by
 refine zaB.dropF ?_
 have h1 := hD.do' (rf := false) 0 1 (zaw 9 [0, 1, 10, 12, 20])
 have o1 := hO.do' (rf := false) hD 0 1 (zaw 9 [0, 1, 10, 12, 20])
 have h2 := h1.do' (rf := false) 2 1 (zaw 10 [1, 100, 10])
 have o2 := o1.do' (rf := false) h1 2 1 (zaw 10 [1, 100, 10])
 have h3 := h2.do' (rf := false) 3 1 (zaw 10 [1, 105, 10])
 have o3 := o2.do' (rf := false) h2 3 1 (zaw 10 [1, 105, 10])
 have l1 := zim hD (who := 0) (seq := 1) (m := zaw 9 [0, 1, 10, 12, 20])
 have l2 := zim h1 (who := 2) (seq := 1) (m := zaw 10 [1, 100, 10])
 have l3 := zim h2 (who := 3) (seq := 1) (m := zaw 10 [1, 105, 10])
 have l4 := zim h3 (who := 0) (seq := 2) (m := zaw 12 [1])
 have w1 : MsgW (zaw 9 [0, 1, 10, 12, 20]) := by unfold MsgW inW zaw; decide
 have w2 : MsgW (zaw 10 [1, 100, 10]) := by unfold MsgW inW zaw; decide
 have w3 : MsgW (zaw 10 [1, 105, 10]) := by unfold MsgW inW zaw; decide
 have w4 : MsgW (zaw 12 [1]) := by unfold MsgW inW zaw; decide
 have d1 := fun G => zba W G x s bks rows N hD hO (by omega) hf 0 1 _ w1
 have d2 := fun G (y : DAd) b r f => zba W G (y.at x.d) _ b r (N + 1) h1 o1 (by omega) f 2 1 _ w2
 have d3 := fun G (y : DAd) b r f => zba W G (y.at x.d) _ b r (N + 1 + 1) h2 o2 (by omega) f 3 1 _ w3
 have d4 := fun G (y : DAd) b r f => zba W G (y.at x.d) _ b r (N + 1 + 1 + 1) h3 o3 (by omega) f 0 2 _ w4
 clear h1 o1 h2 o2 h3 o3 w1 w2 w3 w4
 unfold zbi sto4 sto3 sto2 sto1
 generalize doD false s 0 1 (zaw 9 [0, 1, 10, 12, 20]) = r1 at *
 generalize doD false r1.1 2 1 (zaw 10 [1, 100, 10]) = r2 at *
 generalize doD false r2.1 3 1 (zaw 10 [1, 105, 10]) = r3 at *
 generalize doD false r3.1 0 2 (zaw 12 [1]) = r4 at *
 refine zan Tryz.func18 rfl rfl Tryz.results18 Tryz.ntmps18 rfl rfl ?_
 repeat' (first | apply zae | apply zaa | apply zaj | apply zad | apply zab hT; iterate 4 exact rfl | apply zao (cs := [.int .i64 0, .int .i64 1, .int .i64 10, .int .i64 12, .int .i64 20]) hT; (iterate 12 exact rfl); intro g6 | apply zao (cs := [.int .i64 1, .int .i64 100, .int .i64 10]) hT; (iterate 12 exact rfl); intro g12 | apply zao (cs := [.int .i64 1, .int .i64 105, .int .i64 10]) hT; (iterate 12 exact rfl); intro g18 | apply zao (cs := [.int .i64 1]) hT; (iterate 12 exact rfl); intro g24 | ((fail_if_success (have q := y1)); apply zac; (iterate 7 exact rfl); exact (ofL W _ g6 5 9 [0, 1, 10, 12, 20] (by (repeat (first | exact mcs | apply mcm ))) rfl (Nat.le_of_ble_eq_true rfl))) | ((fail_if_success (have q := y2)); apply zac; (iterate 7 exact rfl); exact (ofL W _ g12 3 10 [1, 100, 10] (by (repeat (first | exact mcs | apply mcm ))) rfl (Nat.le_of_ble_eq_true rfl))) | ((fail_if_success (have q := y3)); apply zac; (iterate 7 exact rfl); exact (ofL W _ g18 3 10 [1, 105, 10] (by (repeat (first | exact mcs | apply mcm ))) rfl (Nat.le_of_ble_eq_true rfl))) | ((fail_if_success (have q := y4)); apply zac; (iterate 7 exact rfl); exact (ofL W _ g24 1 12 [1] (by (repeat (first | exact mcs | apply mcm ))) rfl (Nat.le_of_ble_eq_true rfl))) | ((fail_if_success (have q := y1)); apply zaz; (iterate 7 exact rfl); exact (zaB.perm (d1 _) (by unfold zai; (repeat (first | exact List.Perm.refl _ | (apply zaX; · (repeat (first | exact sel0 | apply selS ))) | (apply za0; · (repeat (first | exact zaP | apply zaT ))))))); rintro _ _ ⟨y1, b1, q1, A1, c1, rfl, rfl, f1, v1⟩) | ((fail_if_success (have q := y2)); apply zaz; (iterate 7 exact rfl); exact (zaB.perm (d2 _ y1 b1 q1 f1) (by unfold zai; (repeat (first | exact List.Perm.refl _ | (apply zaX; · (repeat (first | exact sel0 | apply selS ))) | (apply za0; · (repeat (first | exact zaP | apply zaT ))))))); rintro _ _ ⟨y2, b2, q2, A2, c2, rfl, rfl, f2, v2⟩) | ((fail_if_success (have q := y3)); apply zaz; (iterate 7 exact rfl); exact (zaB.perm (d3 _ y2 b2 q2 f2) (by unfold zai; (repeat (first | exact List.Perm.refl _ | (apply zaX; · (repeat (first | exact sel0 | apply selS ))) | (apply za0; · (repeat (first | exact zaP | apply zaT ))))))); rintro _ _ ⟨y3, b3, q3, A3, c3, rfl, rfl, f3, v3⟩) | ((fail_if_success (have q := y4)); apply zaz; (iterate 7 exact rfl); exact (zaB.perm (d4 _ y3 b3 q3 f3) (by unfold zai; (repeat (first | exact List.Perm.refl _ | (apply zaX; · (repeat (first | exact sel0 | apply selS ))) | (apply za0; · (repeat (first | exact zaP | apply zaT ))))))); rintro _ _ ⟨y4, b4, q4, A4, c4, rfl, rfl, f4, v4⟩) | apply zkA hT; (iterate 10 exact rfl); exact v1.reads mem0; omega; (show (_ : Nat) * 64 ≤ _; omega); intro B1 e1 | (apply zbg hT; (iterate 10 exact rfl); (repeat (first | exact sel0 | apply selS | apply zbO)); (first | exact v2.reads mem0 | exact v3.reads mem0 | exact v4.reads mem0); omega; (show (_ : Nat) * 64 ≤ _; omega); first | (fail_if_success (have q := B2)); intro B2 e2 | (fail_if_success (have q := B3)); intro B3 e3 | intro B4 e4))
 all_goals try omega
 all_goals
  have hl : (r1.2 ++ r2.2 ++ r3.2 ++ r4.2).length = r1.2.length + r2.2.length + r3.2.length + r4.2.length := by simp only [List.length_append]
  have hfm : (r1.2 ++ r2.2 ++ r3.2 ++ r4.2).flatMap OutR.enc = r1.2.flatMap OutR.enc ++ r2.2.flatMap OutR.enc ++ r3.2.flatMap OutR.enc ++ r4.2.flatMap OutR.enc := by simp only [List.flatMap_append]
  apply ret1
  exact rfl
  refine ⟨.own B4 (r1.2.length + r2.2.length + r3.2.length + r4.2.length) e4 45 8 (r1.2.flatMap OutR.enc ++ r2.2.flatMap OutR.enc ++ r3.2.flatMap OutR.enc ++ r4.2.flatMap OutR.enc) :: zai (y4.at x.d) r4.1 b4 q4 F, by (try unfold zai); (repeat (first | exact zar | (apply zay; · (repeat (first | exact sel0 | apply selS ))) | (apply za1; · (repeat (first | exact zaP | apply zaT ))) | apply zat)), fun w hw => ⟨y4, b4, q4, B4, e4, by dsimp only; rw [hl], by dsimp only; rw [hl, hfm], f4, by dsimp only; rw [hl, hfm]; exact hw.ownF mem0⟩⟩
def kO : List OutR := [outM 2 18 [2, 1], outM 0 26 [1, 100], outM 0 28 [1, 1, 0, 100, 10, 2], outM 2 28 [1, 2, 0, 100, 10, 0]]
def kT : zbc := ⟨1, 0, 0, 2, 100, 10, 1, 0⟩
theorem kn : (doD false (zbi (wayD 0)).1 2 2 (zaw 14 [1])).2 = kO ∧ (doD false (zbi (wayD 0)).1 2 2 (zaw 14 [1])).1.trades = [kT] := by decide +kernel
theorem zpS : zhU Tryz.prog 103 := ⟨by kernel_rfl, by kernel_rfl⟩
theorem zdo {w : Int} (hw : w = 0 ∨ w = 1 ∨ w = 2 ∨ w = 3) : DOK 0 (wayD w) ∧ OwnI (wayD w) := ⟨DOK.new (wayR hw), OwnI.new⟩
theorem zjb (W : World) (h : List zax) (x : DAd) (s : Dk) (m0 : zax.blk x.d 95 (zb0 x s) ∈ h) (m1 : zax.blk x.b 138 [x.trades.sl s.trades.length, .int .u64 s.head] ∈ h) (m2 : x.trades.own s.trades.length 103 8 (s.trades.flatMap zbc.enc) ∈ h) (hb : s.trades.length ≤ 1000000) :
 zaB Tryz.prog W 24 [ptrV x.d] h (fun v h' => ∃ A' c', v = .slice A' s.trades.length c' ∧ h' = .own A' s.trades.length c' 103 8 (s.trades.flatMap zbc.enc) :: h ∧ OwnF A' s.trades.length c' 8 (s.trades.flatMap zbc.enc)) :=
 (zjN W h x s m0 m1 m2 hb).conv (by
   rintro v h' ⟨A, c, rfl, rfl⟩ w hw
   exact ⟨_, hw, A, c, rfl, rfl, hw.ownF mem0⟩)
set_option maxHeartbeats 4000000 in
theorem zcW (W : World) (h : List zax) : zaB Tryz.prog W 17 [] h (fun v h' => v = .bool true ∧ h' = h) := by
 refine zaB.dropTo ?_
 obtain ⟨hD, hO⟩ := zdo (w := 0) (.inl rfl)
 obtain ⟨hD2, hO2⟩ := zfl hD hO
 have hb0 : bitI .and .i64 0 3 = 0 := by decide +kernel
 have w4 : MsgW (zaw 14 [1]) := by unfold MsgW inW zaw; decide
 have dSt := fun G (x : DAd) b q f => zg1 W G x (wayD 0) b q 0 hD hO (by omega) f
 have dDo := fun G (x : DAd) b q f => zba W G x (zbi (wayD 0)).1 b q (0 + 4) hD2 hO2 (by omega) f 2 2 _ w4
 obtain ⟨k1, k2⟩ := kn
 clear hD2 hO2 hD hO w4
 generalize hr5 : doD false (zbi (wayD 0)).1 2 2 (zaw 14 [1]) = r5 at *
 rcases r5 with ⟨s5, o5⟩
 dsimp only at k1 k2
 clear hr5
 have h4 : o5.length = 4 := by rw [k1]; rfl
 have hx0 : o5[(0 : Int).toNat]? = some (outM 2 18 [2, 1]) := by rw [k1]; rfl
 have hx1 : o5[(1 : Int).toNat]? = some (outM 0 26 [1, 100]) := by rw [k1]; rfl
 clear k1
 have dTr := fun h (x : DAd) m0 m1 m2 => (zjb W h x s5 m0 m1 m2 (by rw [k2]; exact nle rfl)).mono (R' := fun v h' => ∃ A' c', v = .slice A' 1 c' ∧ h' = .own A' 1 c' 103 8 ([kT].flatMap zbc.enc) :: h ∧ OwnF A' 1 c' 8 ([kT].flatMap zbc.enc)) (by
  rintro v h' ⟨A, c, rfl, rfl, hf⟩
  rw [k2] at hf ⊢
  exact ⟨A, c, rfl, rfl, hf⟩)
 generalize zbi (wayD 0) = r4 at *
 refine zan Tryz.func17 rfl rfl Tryz.results17 Tryz.ntmps17 rfl rfl ?_
 repeat' (first | apply zae | apply zaa | apply zad | apply zab hT; iterate 4 exact rfl | apply zaz; (iterate 7 exact rfl); exact (zdn W _ 0 0 hb0 (.inl rfl)); rintro _ _ ⟨A1, c1, A2, c2, rfl, rfl⟩ | (apply zaz; (iterate 7 exact rfl); exact (zcq W _ 0 (.inl rfl) A1 A2 c1 c2 (by (repeat (first | exact mcs | apply mcm ))) (by (repeat (first | exact mcs | apply mcm )))); rintro _ _ ⟨x, b0, q0, rfl, rfl, f0⟩) | apply zaz; (iterate 7 exact rfl); exact (dSt _ x b0 q0 f0); rintro _ _ ⟨y1, b1, q1, B1, e1, rfl, rfl, f1, v1⟩ | apply zao (cs := [.int .i64 1]) hT; (iterate 12 exact rfl); intro g9 | (apply zac; (iterate 7 exact rfl); exact (ofL W _ g9 1 14 [1] (by (repeat (first | exact mcs | apply mcm ))) rfl (Nat.le_of_ble_eq_true rfl))) | (apply zaz; (iterate 7 exact rfl); exact (zaB.perm (dDo _ (y1.at x.d) b1 q1 f1) (by (try unfold zai); (repeat (first | exact List.Perm.refl _ | (apply zaX; · (repeat (first | exact sel0 | apply selS ))) | (apply za0; · (repeat (first | exact zaP | apply zaT ))))))); rintro _ _ ⟨y2, b2, q2, B2, e2, rfl, rfl, f2, v2⟩) | (apply zaz; (iterate 7 exact rfl); exact (dTr _ (y2.at x.d) (by (repeat (first | exact mcs | apply mcm ))) (by (repeat (first | exact mcs | apply mcm ))) (by (repeat (first | exact mcs | apply mcm )))); rintro _ _ ⟨B3, e3, rfl, rfl, hf3⟩) | (apply zav; exact rfl; all_goals (intro hb; (fail_if_success (change true = true at hb)); (fail_if_success (change false = false at hb)); (try dsimp only at hb); (try simp only [hb]); (first | replace hb := odt hb | replace hb := odf hb ); (try omega))))
 all_goals try omega
 all_goals
  dsimp only at v2 ⊢
  have hBA : B2.isSome = true := v2.some_ (by omega)
  have hCA : B3.isSome = true := hf3.some_ (by omega)
  have hy2 : [kT][(0 : Int).toNat]? = some kT := rfl
  repeat' (first | apply zaj | apply zad | apply zab hT; iterate 4 exact rfl | (apply zaS hT; (iterate 8 exact rfl); (iterate 2 omega); first | exact hBA | exact hCA) | (apply zal; (iterate 5 exact rfl); first | exact zbb hT rfl rfl (v2.reads (by (repeat (first | exact mcs | apply mcm )))) OutR.enc_len (by rw [zaW, zaW]; rfl) hx0 (f := 1) (by decide) rfl | exact zbb hT rfl rfl (v2.reads (by (repeat (first | exact mcs | apply mcm )))) OutR.enc_len (by rw [zaW, zaW]; rfl) hx1 (f := 1) (by decide) rfl | exact zaY hT rfl rfl (hf3.reads (by (repeat (first | exact mcs )))) zbc.enc_len rfl hy2 rfl) | apply zaO hT (cs := zbc.enc kT); iterate 4 exact rfl | (apply znb (n := 2) (hd := [103]) (r := true) hT; (iterate 5 exact rfl); exact rfl; decide; exact (fun t ht => by rw [List.mem_singleton.1 ht]; exact zpS.1); exact zpS.2))
  all_goals try omega
  all_goals first
   | (apply ret1; exact rfl; exact ⟨h, by (try unfold zai); (repeat (first | exact zar | apply zat | apply zpu)), rfl, rfl⟩)
   | skip
end Go.Proofs.YtakilgkpfjhfdaaGreat
namespace Go.Sl
open Go
def numb : Nat → List Value → List (Nat × Value)
 | _, [] => []
 | i, v :: vs => (i, v) :: numb (i + 1) vs
theorem zjc {α : Type} {enc : α → List Value} {k : Nat} (hk : ∀ x, (enc x).length = k) {z : List Value} (hz : z.length = k) : ∀ (l : List α) (i : Nat) (done : List Value), done.length = i * k →
 zeG (fun i => some (i * k, k)) (done ++ repZ z l.length) (numb i (l.map fun x => .agg (enc x).toArray)) = some (done ++ l.flatMap enc)
 | [], i, done, hd => by simp [numb, zeG, repZ]
 | x :: l, i, done, hd => by
   have ih := zjc hk hz l (i + 1) (done ++ enc x) (by rw [List.length_append, hd, hk, Nat.add_mul, Nat.one_mul])
   simp only [List.map_cons, numb, zeG, List.length_cons]
   have e1 : repZ z (l.length + 1) = z ++ repZ z l.length := rfl
   have e2 : (Value.agg (enc x).toArray).cells = (enc x).toArray := rfl
   rw [e1, e2, if_pos ⟨by rw [List.size_toArray]; exact hk x, by rw [List.length_append, List.length_append, hd, hz]; omega⟩]
   have e3 : lay (done ++ (z ++ repZ z l.length)) (i * k) (enc x) = (done ++ enc x) ++ repZ z l.length := by
    unfold lay
    rw [← hd, List.take_left]
    rw [show done.length + (enc x).length = done.length + z.length by rw [hk, hz], ← List.drop_drop, List.drop_left, List.drop_left]
   rw [show (enc x).toArray.toList = enc x from rfl, e3, ih, List.flatMap_cons, List.append_assoc]
theorem zku {α : Type} {enc : α → List Value} {k : Nat} (hk : ∀ x, (enc x).length = k) {z : List Value} (hz : z.length = k) {l : List α} {n : Nat} {vs : List (Nat × Value)} (hn : l.length = n) (hv : numb 0 (l.map fun x => .agg (enc x).toArray) = vs) :
 zeG (fun i => some (i * k, k)) (repZ z n) vs = some (l.flatMap enc) := by
 subst hn hv
 have := zjc hk hz l 0 [] (by simp)
 simpa using this
end Go.Sl
