/- The statement's walk, and what it stands on, joined into few texts: part 6. Conditions stand in each statement. -/
import Derived.Test.YtakilgkpfjhfdaaGreatBndE5
set_option linter.all false
namespace Go.Proofs.YtakilgkpfjhfdaaGreat
open Go Go.Sl
attribute [local irreducible] AW ES EP Ld RetQ
set_option maxRecDepth 100000
theorem meets_outs {N : Nat} {s : Dk} (hD : DOK N s) {who : Int} {n : Nat} {o : Order} {how : Int} : (meetsD s who n o how).outs.length ≤ 400 := by
  unfold meetsD
  dsimp only
  split
  · exact Nat.zero_le _
  · have h1 := doV_lens' (how := how) (o := { o with seq := s.seq + 1 }) (hD.bookB n)
    have h2 := fills_outs (who := who) (o := o) (n := n) (doV how { o with seq := s.seq + 1 } (bookAt s n)).fills ⟨{ s with seq := s.seq + 1, books := s.books.set n (doV how { o with seq := s.seq + 1 } (bookAt s n)).bk }, (doV how { o with seq := s.seq + 1 } (bookAt s n)).gones.map fun g => outM who 21 [g.id, g.left], o.left⟩
    dsimp only at h2
    rw [List.length_map] at h2
    split
    · rw [List.length_append, h2]; show _ + 1 ≤ _; omega
    · rw [h2]; omega
theorem does_outs {N : Nat} {s : Dk} (hD : DOK N s) {who : Int} {m : MsgR} : (doesD false s who m).outs.length ≤ 1000000 := by
  have hH : ∀ a q, (hitQ s a q).outs.length ≤ 1000000 := fun a q => by
    unfold hitQ
    repeat' split
    all_goals (first | exact Nat.zero_le _ | show 1 ≤ _; omega)
  have h8 := hD.few
  unfold doesD
  split
  · exact Nat.zero_le _
  split
  · unfold comesD
    dsimp only
    split
    · exact Nat.zero_le _
    split
    · exact Nat.zero_le _
    split
    · exact Nat.zero_le _
    have := meets_outs hD (who := who) (n := m.f0.toNat) (o := ⟨s.order + 1, 0, who, m.f1, m.f2, m.f3⟩) (how := m.f4)
    split
    · dsimp only; omega
    · omega
  split
  · unfold changesD
    dsimp only
    split
    · exact Nat.zero_le _
    split
    · exact Nat.zero_le _
    split
    · exact Nat.zero_le _
    split
    · split
      · exact Nat.zero_le _
      split
      · exact Nat.zero_le _
      · rename_i o _ _ _ _ _
        have := meets_outs (hD.setDrop (findB s.books m.f0).toNat o.id) (who := who) (n := (findB s.books m.f0).toNat) (o := { o with price := m.f1, left := m.f2 }) (how := 0)
        dsimp only
        omega
    · show 1 ≤ _; omega
  split
  · unfold quoteD
    split
    · exact Nat.zero_le _
    repeat' split
    all_goals first
      | exact Nat.zero_le _
      | (dsimp only; split <;> first | exact Nat.zero_le _ | show 1 ≤ _; omega)
  split
  · unfold pullD
    repeat' split
    all_goals exact Nat.zero_le _
  split
  · unfold hitD
    repeat' split
    all_goals first | exact Nat.zero_le _ | exact hH _ _
  split
  · unfold bestD
    repeat' split
    all_goals first | exact Nat.zero_le _ | exact hH _ _
  split
  · unfold looksD
    split
    · exact Nat.zero_le _
    split
    · exact Nat.zero_le _
    dsimp only
    split
    · exact Nat.zero_le _
    split
    · unfold lookEndsD
      dsimp only
      split <;> (show 1 ≤ _; omega)
    · split
      · exact Nat.zero_le _
      split
      · exact Nat.zero_le _
      · show 3 ≤ _; omega
  split
  · unfold dropAskD
    repeat' split
    all_goals (first | exact Nat.zero_le _ | show 1 ≤ _; omega)
  split
  · unfold askD
    dsimp only
    repeat' split
    all_goals first
      | exact Nat.zero_le _
      | (refine Nat.le_trans (List.length_filterMap_le _ _) ?_; rw [List.length_range]; omega)
  · unfold haltD
    repeat' split
    all_goals exact Nat.zero_le _
def ActPost (x : DAd) (F : List Chunk) (r : Dk × List OutR) (v : Value) (h' : List Chunk) : Prop :=
  ∃ (y : DAd) (bks : List BAd) (rows : List PRow) (A : Option Addr) (c : Nat), v = .slice A r.2.length c ∧ h' = .own A r.2.length c 45 8 (r.2.flatMap OutR.enc) :: deskTab (y.at x.d) r.1 bks rows F ∧ deskFits r.1 bks rows ∧ OwnF A r.2.length c 8 (r.2.flatMap OutR.enc)
set_option maxHeartbeats 4000000 in
theorem desk_Do (W : World) (F : List Chunk) (x : DAd) (s : Dk) (bks : List BAd) (rows : List PRow) (N : Nat) (hD : DOK N s) (hO : OwnI s) (hN : N ≤ 10000) (hf : deskFits s bks rows) (who seq : Int) (m : MsgR) (hmw : MsgW m) :
    FSpec Tryz.prog W 15 [ptrV x.d, .int .i64 who, .int .i64 seq, .agg m.enc.toArray] (deskTab x s bks rows F) (ActPost x F (doD false s who seq m)) := by
  refine FSpec.dropF ?_
  have hDs := fun G g => desk_does W G x s bks rows N hD hO hN hf g who 0 ⟨none, 0⟩ [] m hmw (Nat.zero_le _)
  have hos : (doesD false s who m).outs.length ≤ 1000000 := does_outs hD
  unfold doD
  generalize doesD false s who m = r at *
  have hOu := fun h A to kind (ns : List Int) (hm : Chunk.own A ns.length ns.length 2 1 (ns.map (Value.int .i64)) ∈ h) (hl : ns.length ≤ 6) => desk_out W h A ns.length to kind ns (Reads.ints hm rfl) hl
  dsimp only
  refine spec_body Tryz.func15 rfl rfl Tryz.results15 Tryz.ntmps15 rfl rfl ?_
  refine aw_conv (fun w hw => ⟨_, hw.own_nil 45 8, ?_⟩)
  unfold deskTab
  by_cases he : r.err ≠ 0
  · rw [if_pos he]
    repeat' (first | apply aw_seq | apply aw_region | apply aw_ret | apply aw_skip | apply es_nil | apply es_pure hT; iterate 4 exact rfl | (apply es_box; (iterate 5 exact rfl); first | (fail_if_success (have q := g7)); intro g7 | intro g15) | (apply es_buildS hT (cs := [.int .i64 who, .int .i64 0, .slice none 0 0]); iterate 4 exact rfl) | (apply es_call; (iterate 7 exact rfl); exact (FSpec.perm (hDs _ g15) (by unfold callTab deskTab; (repeat (first | exact List.Perm.refl _ | (apply permC; · (repeat (first | exact sel0 | apply selS ))) | (apply permCA; · (repeat (first | exact pullA0 | apply pullAS ))))))); rintro _ _ ⟨rfl, y2, o2, bks2, rows2, id2, os2, rfl, hf2, hok2⟩) | (apply es_buildSlice (cs := [.int .i64 seq, .int .i64 r.err]) hT; (iterate 12 exact rfl); intro g25) | (apply es_buildSlice (cs := (outM who 19 [seq, r.err]).enc) hT; (iterate 12 exact rfl); intro g27) | (apply es_callQ; (iterate 7 exact rfl); exact (hOu _ (some ⟨g25, 0, none⟩) who 19 [seq, r.err] (by (repeat (first | exact mcs ))) (Nat.le_of_ble_eq_true rfl))) | (apply es_load; (iterate 5 exact rfl); first | (apply ld_all hT; exact rfl; exact rfl; (repeat (first | exact mcs | apply mcm )); exact rfl)) | (apply aw_condF; iterate 2 exact rfl) | (apply aw_cond; exact rfl; all_goals (intro hb; (try dsimp only at hb); (try simp only [hb]); (first | replace hb := bne_t hb | replace hb := bne_f hb ); (try omega))))
    all_goals try omega
    all_goals (apply ret1; exact rfl; exact ⟨.own (some ⟨g27, 0, none⟩) 1 1 45 8 ([outM who 19 [seq, r.err]].flatMap OutR.enc) :: deskTab (y2.at x.d) r.d bks2 rows2 F, by (unfold callTab deskTab; (repeat (first | exact dt_end | (apply dt_cons; · (repeat (first | exact sel0 | apply selS ))) | (apply dt_consA; · (repeat (first | exact pullA0 | apply pullAS ))) | apply dt_skip))), fun w hw => ⟨y2, bks2, rows2, _, _, rfl, rfl, hf2, hw.ownF mem0⟩⟩)
  · rw [if_neg he]
    have he := Decidable.not_not.1 he
    repeat' (first | apply aw_seq | apply aw_region | apply aw_ret | apply aw_skip | apply es_nil | apply es_pure hT; iterate 4 exact rfl | (apply aw_treeD [40] [] (.step 0 <| .step 1 <| .step 2 <| .step 3 <| .step 4 <| .step 5 <| .step 9 <| .step 10 <| .step 11 <| .step 12 <| .step 6 <| .step 7 <| .step 8 <| .step 13 <| .step 14 <| .nil) hmix; decide +kernel) | apply ep_nil | apply ep_step; exact rfl | (apply es_box; (iterate 5 exact rfl); first | (fail_if_success (have q := g7)); intro g7 | intro g15) | (apply es_buildS hT (cs := [.int .i64 who, .int .i64 0, .slice none 0 0]); iterate 4 exact rfl) | (apply es_call; (iterate 7 exact rfl); exact (FSpec.perm (hDs _ g15) (by unfold callTab deskTab; (repeat (first | exact List.Perm.refl _ | (apply permC; · (repeat (first | exact sel0 | apply selS ))) | (apply permCA; · (repeat (first | exact pullA0 | apply pullAS ))))))); (rintro _ _ ⟨rfl, y2, o2, bks2, rows2, id2, os2, rfl, hf2, hok2⟩; rw [he]; obtain ⟨rfl, rfl⟩ := hok2 he)) | (apply es_buildSlice (cs := [.int .i64 seq, .int .i64 r.id]) hT; (iterate 12 exact rfl); intro g34) | (apply es_buildSlice (cs := (outM who 18 [seq, r.id]).enc) hT; (iterate 12 exact rfl); intro g36) | (apply es_callQ; (iterate 7 exact rfl); exact (hOu _ (some ⟨g34, 0, none⟩) who 18 [seq, r.id] (by (repeat (first | exact mcs ))) (Nat.le_of_ble_eq_true rfl))) | (apply es_append hT; (iterate 10 exact rfl); (repeat (first | exact sel0 )); exact (Reads.enc (l := [] ++ r.outs) OutR.enc_len OutR.enc_one (by (repeat (first | exact mcs | apply mcm ))) rfl); (rw [List.nil_append]; omega); ((show (1 + (([] : List OutR) ++ r.outs).length) * 64 ≤ _); rw [List.nil_append]; omega); intro A' c') | (apply es_load; (iterate 5 exact rfl); first | (apply ld_blk hT; exact rfl; exact rfl; (repeat (first | exact mcs )); exact rfl; exact rfl) | (apply ld_all hT; exact rfl; exact rfl; (repeat (first | exact mcs | apply mcm )); exact rfl)) | (apply aw_condF; iterate 2 exact rfl))
    all_goals try omega
    all_goals
      apply ret1
      exact rfl
      refine ⟨.own A' (1 + ([] ++ r.outs : List OutR).length) c' 45 8 ((outM who 18 [seq, r.id] :: r.outs).flatMap OutR.enc) :: deskTab (y2.at x.d) r.d bks2 rows2 F, by (unfold callTab deskTab; (repeat (first | exact dt_end | (apply dt_cons; · (repeat (first | exact sel0 | apply selS ))) | (apply dt_consA; · (repeat (first | exact pullA0 | apply pullAS ))) | apply dt_skip))), fun w hw => ?_⟩
      have e : 1 + ([] ++ r.outs : List OutR).length = (outM who 18 [seq, r.id] :: r.outs).length := by simp [Nat.add_comm]
      rw [e] at hw ⊢
      exact ⟨y2, bks2, rows2, _, _, rfl, rfl, hf2, hw.ownF mem0⟩
end Go.Proofs.YtakilgkpfjhfdaaGreat

namespace Go.Proofs.YtakilgkpfjhfdaaGreat
open Go Go.Sl
attribute [local irreducible] AW ES EP Ld RetQ
set_option maxRecDepth 100000
theorem DOK.tick0 {N : Nat} {s : Dk} (h : DOK N s) : DOK (N + 1) ({ s with now := s.now + 1, due := s.due.drop (takeN s.due (s.now + 1)) } : Dk) := by
  have h' := h.up
  have hn := h.now
  exact ⟨h'.rules, h'.nbk, h'.bks, h'.bid, h'.order, h'.seq, ⟨by show 0 ≤ s.now + 1; omega, by show s.now + 1 ≤ ((N + 1 : Nat) : Int); omega⟩, h'.quote, h'.ask, h'.nus, h'.us, h'.upq, h'.nq,
    fun q hq => (h'.qs q hq).mono (Int.le_refl _) rfl (by show s.now ≤ s.now + 1; omega), h'.upa, h'.na, fun a ha => (h'.as_ a ha).mono (Int.le_refl _) rfl rfl (by show s.now ≤ s.now + 1; omega),
    h'.row.sub (List.drop_sublist _ _), Nat.le_trans (List.drop_sublist _ _).length_le h'.nd, h'.ncash, h'.cash, h'.npos, h'.pos, h'.nt, h'.head⟩
theorem dueAll_step {xs : List Due} {k : Nat} {d : Due} {s : Dk × List OutR} (h : xs[k]? = some d) : (xs.take (k + 1)).foldl (dueD false) s = dueD false ((xs.take k).foldl (dueD false) s) d := by
  rw [List.take_add_one, h, List.foldl_append]; rfl
theorem dueAll_outs : ∀ (xs : List Due) (s : Dk × List OutR), (xs.foldl (dueD false) s).2.length ≤ s.2.length + xs.length
  | [], s => by simp
  | x :: xs, s => by
    rw [List.foldl_cons]
    have h1 := dueAll_outs xs (dueD false s x)
    have h2 : (dueD false s x).2.length ≤ s.2.length + 1 := by
      unfold dueD
      split
      · dsimp only; omega
      · split
        · omega
        · split
          · dsimp only
            unfold lookEndsD
            dsimp only
            split <;> (rw [List.length_append]; show _ + 1 ≤ _; omega)
          · split
            · dsimp only; rw [List.length_append]; show _ + 1 ≤ _; omega
            · omega
    rw [List.length_cons]; omega
theorem dueOne_books (s : Dk × List OutR) (x : Due) : (dueD false s x).1.books = s.1.books ∧ (dueD false s x).1.pos = s.1.pos := by
  unfold dueD
  split
  · exact ⟨rfl, rfl⟩
  · split
    · exact ⟨rfl, rfl⟩
    · split
      · dsimp only
        unfold lookEndsD
        dsimp only
        split <;> exact ⟨rfl, rfl⟩
      · split <;> exact ⟨rfl, rfl⟩
theorem dueAll_books : ∀ (xs : List Due) (s : Dk × List OutR), (xs.foldl (dueD false) s).1.books = s.1.books ∧ (xs.foldl (dueD false) s).1.pos = s.1.pos
  | [], s => ⟨rfl, rfl⟩
  | x :: xs, s => by
    rw [List.foldl_cons]
    have h1 := dueAll_books xs (dueD false s x)
    have h2 := dueOne_books s x
    exact ⟨h1.1.trans h2.1, h1.2.trans h2.2⟩
set_option maxHeartbeats 8000000 in
theorem desk_Tick (W : World) (F : List Chunk) (x : DAd) (s : Dk) (bks : List BAd) (rows : List PRow) (N : Nat) (hD : DOK N s) (hN : N ≤ 10000) (hf : deskFits s bks rows) :
    FSpec Tryz.prog W 23 [ptrV x.d] (deskTab x s bks rows F) (ActPost x F (tickD false s)) := by
  refine FSpec.dropF ?_
  have hld : s.due.length ≤ 1000000 := by have := hD.nd; omega
  have hnw := hD.now
  have hnd := hD.nd
  have hTk := fun G => due_TakeF W G x.u x.due.A x.due.c s.due (s.now + 1) hld
  have hD0 : DOK (N + 1) ({ s with now := s.now + 1, due := s.due.drop (takeN s.due (s.now + 1)) } : Dk) := hD.tick0
  unfold tickD
  have hxe : (s.due.take (takeN s.due (s.now + 1))).length = takeN s.due (s.now + 1) := by
    rw [List.length_take]
    exact Nat.min_eq_left (List.takeWhile_sublist _).length_le
  have hxl : takeN s.due (s.now + 1) ≤ N := Nat.le_trans (List.takeWhile_sublist _).length_le hnd
  generalize takeN s.due (s.now + 1) = k0 at *
  generalize s.due.take k0 = xs at *
  generalize s.due.drop k0 = ds at *
  subst hxe
  generalize hs0 : (({ s with now := s.now + 1, due := ds } : Dk), ([] : List OutR)) = s0 at *
  have hf0 : deskFits s0.1 bks rows := by rw [← hs0]; exact hf
  have hD0' : DOK (N + 1) s0.1 := by rw [← hs0]; exact hD0
  have ho0 : s0.2 = [] := by rw [← hs0]
  refine spec_body Tryz.func23 rfl rfl Tryz.results23 Tryz.ntmps23 rfl rfl ?_
  refine aw_conv (fun w hw => ⟨_, hw.own_nil 45 8, ?_⟩)
  unfold deskTab
  repeat' (first | apply aw_seq | apply aw_region | apply aw_skip | apply aw_block | apply es_nil | apply es_pure hT; iterate 4 exact rfl | (apply es_i64 hT; (iterate 4 exact rfl); (iterate 2 (first | omega ))) | apply es_box; (iterate 5 exact rfl); intro g11 | apply es_buildS hT (cs := [.int .i64 0, .int .i64 0, .slice none 0 0]); iterate 4 exact rfl | (apply es_store hT; (iterate 6 exact rfl); (repeat (first | exact sel0 | apply selS )); (iterate 3 exact rfl); exact nle rfl) | (apply aw_treeD [] [] (.step 0 <| .step 1 <| .step 2 <| .step 3 <| .step 4 <| .step 5 <| .step 6 <| .step 7 <| .step 10 <| .step 8 <| .step 9 <| .nil) hmix; decide +kernel) | apply ep_nil | apply ep_step; exact rfl | (apply es_call; (iterate 7 exact rfl); exact (FSpec.perm (hTk _) (by (repeat (first | exact List.Perm.refl _ | (apply permC; · (repeat (first | exact sel0 | apply selS ))) )))); rintro _ _ ⟨A1, c1, A2, c2, rfl, rfl, hod⟩) | (apply es_load; (iterate 5 exact rfl); first | (apply ld_blk hT; exact rfl; exact rfl; (repeat (first | exact mcs | apply mcm )); exact rfl; exact rfl) ) | apply aw_condF; iterate 2 exact rfl)
  all_goals try omega
  all_goals
    refine aw_loopD (α := Nat × Sp × DAd) (E := fun z => [(0, ptrV x.d), (3, ptrV g11), (27, .slice A1 xs.length c1), (28, .int .i64 xs.length), (29, .int .i64 z.1)])
      (H := fun z => .own A1 xs.length c1 121 3 (xs.flatMap Due.enc) :: callTab g11 0 0 z.2.1 ((xs.take z.1).foldl (dueD false) s0).2 (deskTab (z.2.2.at x.d) ((xs.take z.1).foldl (dueD false) s0).1 bks rows F)) (μ := fun z => xs.length - z.1)
      (S := fun z => z.1 ≤ xs.length) (0, ⟨none, 0⟩, { x with due := ⟨A2, c2⟩ }) (Nat.zero_le _) ⟨rfl, rfl, rfl, rfl, rfl, trivial⟩ ?_ ?_
    · dsimp only
      show DropTo _ (.own A1 xs.length c1 121 3 (xs.flatMap Due.enc) :: callTab g11 0 0 ⟨none, 0⟩ s0.2 (deskTab (({ x with due := ⟨A2, c2⟩ } : DAd).at x.d) s0.1 bks rows F))
      subst hs0
      unfold callTab deskTab
      (repeat (first | exact dt_end | (apply dt_cons; · (repeat (first | exact sel0 | apply selS )))))
    · rintro ⟨k, o2, y⟩ hkk
      dsimp only at hkk ⊢
      by_cases hlt : k < xs.length
      · obtain ⟨d, hd1⟩ : ∃ d, xs[k]? = some d := ⟨xs[k]'hlt, List.getElem?_eq_getElem hlt⟩
        have hd2 : xs[(k : Int).toNat]? = some d := by simpa using hd1
        have hdc : decide ((k : Int) < (xs.length : Int)) = true := by simp; omega
        have hstp := dueAll_step (s := s0) hd1
        have hDk : DOK (N + 1) ((xs.take k).foldl (dueD false) s0).1 := DOK.dueAll (s := s0) _ hD0'
        have hol := dueAll_outs (xs.take k) s0
        rw [ho0, List.length_take] at hol
        have hbo : ((xs.take k).foldl (dueD false) s0).2.length ≤ 1000000 := by
          have : min k xs.length ≤ N := by omega
          simp only [List.length_nil] at hol
          omega
        generalize (xs.take k).foldl (dueD false) s0 = st at *
        generalize hst2 : (xs.take (k + 1)).foldl (dueD false) s0 = st2 at *
        have hla : st.1.asks.length ≤ 1000000 := by have := hDk.na; omega
        have hlq : st.1.quotes.length ≤ 1000000 := by have := hDk.nq; omega
        have hlu : st.1.due.length ≤ 1000000 := by have := hDk.nd; omega
        have hG := ask_Get W y.a y.asks.A y.asks.c st.1.asks d.id hla hDk.upa
        unfold dueD at hstp
        refine aw_reads (hod.reads mem0) rfl (fun hDi => ?_)
        have hDA := hDi (by omega)
        by_cases h3 : d.kind = 3
        · rw [if_pos h3] at hstp
          have hK := fun G => quo_Kill W G y.q y.quotes.A y.quotes.c st.1.quotes d.id hlq hDk.upq
          rcases hga : getA d.id st.1.asks with _ | a
          all_goals
            rw [hga] at hG
            unfold gotA at hG
            dsimp only at hG
            unfold callTab deskTab
            repeat' (first | apply aw_seq | apply aw_region | apply aw_skip | apply aw_block | apply es_nil | apply es_pure hT; iterate 4 exact rfl | (apply es_i64 hT; (iterate 4 exact rfl); (iterate 2 (first | omega ))) | apply aw_draw [51] [] hmix; decide +kernel | apply es_idx hT; (iterate 8 exact rfl); (iterate 2 omega); exact hDA | (apply es_load; (iterate 5 exact rfl); exact ld_elem hT rfl rfl (hod.reads (by (repeat (first | exact mcs | apply mcm )))) Due.enc_len rfl hd2 rfl) | (apply es_alloc hT; (iterate 5 exact rfl); first | (fail_if_success (have q := g5)); intro g5 | (fail_if_success (have q := g6)); intro g6) | (apply es_store hT; (iterate 6 exact rfl); (repeat (first | exact sel0 )); (iterate 3 exact rfl); exact nle rfl) | (apply es_callQ; (iterate 7 exact rfl); exact (hG.mono (mem2P (by (repeat (first | exact mcs | apply mcm ))) (by (repeat (first | exact mcs | apply mcm )))))) | (apply es_call; (iterate 7 exact rfl); exact (FSpec.perm (hK _) (by (repeat (first | exact List.Perm.refl _ | (apply permC; · (repeat (first | exact sel0 | apply selS ))) )))); rintro _ _ ⟨rfl, rfl⟩) | (apply es_load; (iterate 5 exact rfl); first | (apply ld_blk hT; exact rfl; exact rfl; (repeat (first | exact mcs | apply mcm )); exact rfl; exact rfl) ) | (apply aw_cond; exact rfl; all_goals (intro hb; (try dsimp only at hb); (try simp only [hb]); (first | replace hb := odt hb | replace hb := odf hb ); (try omega))))
            all_goals try omega
            all_goals exact loopq_end (k + 1, o2, y) (by (try dsimp only); omega) (by (try dsimp only); omega) ⟨rfl, rfl, rfl, rfl, rfl, trivial⟩ (by dsimp only; rw [hst2, hstp]; (repeat (first | exact dt_end | (apply dt_cons; · (repeat (first | exact sel0 | apply selS ))) | (apply dt_consA; · (repeat (first | exact pullA0 | apply pullAS ))) | apply dt_skip)))
        · rw [if_neg h3] at hstp
          rcases hga : getA d.id st.1.asks with _ | a
          · rw [hga] at hG hstp
            unfold gotA at hG
            dsimp only at hG hstp
            unfold callTab deskTab
            repeat' (first | apply aw_seq | apply aw_region | apply aw_skip | apply aw_block | apply es_nil | apply es_pure hT; iterate 4 exact rfl | apply es_skip; iterate 3 exact rfl | (apply es_i64 hT; (iterate 4 exact rfl); (iterate 2 (first | omega ))) | apply aw_draw [51] [] hmix; decide +kernel | apply es_idx hT; (iterate 8 exact rfl); (iterate 2 omega); exact hDA | (apply es_load; (iterate 5 exact rfl); exact ld_elem hT rfl rfl (hod.reads (by (repeat (first | exact mcs | apply mcm )))) Due.enc_len rfl hd2 rfl) | (apply es_alloc hT; (iterate 5 exact rfl); first | (fail_if_success (have q := g5)); intro g5 | (fail_if_success (have q := g6)); intro g6) | (apply es_store hT; (iterate 6 exact rfl); (repeat (first | exact sel0 )); (iterate 3 exact rfl); exact nle rfl) | (apply es_callQ; (iterate 7 exact rfl); exact (hG.mono (mem2P (by (repeat (first | exact mcs | apply mcm ))) (by (repeat (first | exact mcs | apply mcm )))))) | (apply es_load; (iterate 5 exact rfl); first | (apply ld_blk hT; exact rfl; exact rfl; (repeat (first | exact mcs | apply mcm )); exact rfl; exact rfl) ) | (apply aw_condF; iterate 2 exact rfl) | (apply es_case; exact rfl; all_goals (intro hb; (fail_if_success (change true = true at hb)); (fail_if_success (change false = false at hb)); (try dsimp only at hb); (try simp only [hb]); (first | replace hb := odt hb | replace hb := odf hb ); (try omega))) | (apply aw_cond; exact rfl; all_goals (intro hb; (try dsimp only at hb); (try simp only [hb]); (first | replace hb := odt hb | replace hb := odf hb ); (try omega))))
            all_goals try omega
            all_goals exact loopq_end (k + 1, o2, y) (by (try dsimp only); omega) (by (try dsimp only); omega) ⟨rfl, rfl, rfl, rfl, rfl, trivial⟩ (by dsimp only; rw [hst2, hstp]; (repeat (first | exact dt_end | (apply dt_cons; · (repeat (first | exact sel0 | apply selS ))) | (apply dt_consA; · (repeat (first | exact pullA0 | apply pullAS ))) | apply dt_skip)))
          · rw [hga] at hG hstp
            unfold gotA at hG
            dsimp only at hG hstp
            by_cases h2 : d.kind = 2 ∧ a.state = 2
            · rw [if_pos h2] at hstp
              have hLE := fun G => desk_lookEnds W G (y.at x.d) st.1 bks rows g11 0 0 o2 st.2 a hDk.upa hDk.upq hla hlq hlu hbo
              generalize lookEndsD false st.1 a = r at *
              obtain ⟨h2a, h2b⟩ := h2
              unfold callTab deskTab
              repeat' (first | apply aw_seq | apply aw_region | apply aw_skip | apply aw_block | apply es_nil | apply es_pure hT; iterate 4 exact rfl | (apply es_i64 hT; (iterate 4 exact rfl); (iterate 2 (first | omega ))) | apply aw_draw [51] [] hmix; decide +kernel | apply es_idx hT; (iterate 8 exact rfl); (iterate 2 omega); exact hDA | (apply es_load; (iterate 5 exact rfl); exact ld_elem hT rfl rfl (hod.reads (by (repeat (first | exact mcs | apply mcm )))) Due.enc_len rfl hd2 rfl) | (apply es_alloc hT; (iterate 5 exact rfl); first | (fail_if_success (have q := g5)); intro g5 | (fail_if_success (have q := g6)); intro g6) | (apply es_store hT; (iterate 6 exact rfl); (repeat (first | exact sel0 )); (iterate 3 exact rfl); exact nle rfl) | (apply es_callQ; (iterate 7 exact rfl); exact (hG.mono (mem2P (by (repeat (first | exact mcs | apply mcm ))) (by (repeat (first | exact mcs | apply mcm )))))) | (apply es_call; (iterate 7 exact rfl); exact (FSpec.perm (hLE _) (by (repeat (first | exact List.Perm.refl _ | (apply permC; · (repeat (first | exact sel0 | apply selS ))) | (apply permCA; · (repeat (first | exact pullA0 | apply pullAS ))))))); rintro _ _ ⟨rfl, y2, o3, rfl⟩) | (apply es_load; (iterate 5 exact rfl); first | (apply ld_blk hT; exact rfl; exact rfl; (repeat (first | exact mcs | apply mcm )); exact rfl; exact rfl) | (apply ld_all hT; exact rfl; exact rfl; (repeat (first | exact mcs )); exact rfl)) | (apply es_case; exact rfl; all_goals (intro hb; (fail_if_success (change true = true at hb)); (fail_if_success (change false = false at hb)); (try dsimp only at hb); (try simp only [hb]); (first | replace hb := odt hb | replace hb := odf hb ); (try omega))) | (apply aw_cond; exact rfl; all_goals (intro hb; (try dsimp only at hb); (try simp only [hb]); (first | replace hb := odt hb | replace hb := odf hb ); (try omega))))
              all_goals try omega
              all_goals exact loopq_end (k + 1, o3, y2) (by (try dsimp only); omega) (by (try dsimp only); omega) ⟨rfl, rfl, rfl, rfl, rfl, trivial⟩ (by dsimp only; rw [hst2, hstp]; (repeat (first | exact dt_end | (apply dt_cons; · (repeat (first | exact sel0 | apply selS | apply selApp))) | (apply dt_consA; · (repeat (first | exact pullA0 ))) | apply dt_skip)))
            · rw [if_neg h2] at hstp
              by_cases h1 : d.kind = 1 ∧ a.state = 1
              · rw [if_pos h1] at hstp
                have hDi := fun G => desk_dies W G (y.at x.d) st.1 bks rows g11 0 0 o2 st.2 a hDk.upa hla hlq hlu hbo
                obtain ⟨h1a, h1b⟩ := h1
                unfold callTab deskTab
                repeat' (first | apply aw_seq | apply aw_region | apply aw_skip | apply aw_block | apply es_nil | apply es_pure hT; iterate 4 exact rfl | apply es_skip; iterate 3 exact rfl | (apply es_i64 hT; (iterate 4 exact rfl); (iterate 2 (first | omega ))) | apply aw_draw [51] [] hmix; decide +kernel | apply es_idx hT; (iterate 8 exact rfl); (iterate 2 omega); exact hDA | (apply es_load; (iterate 5 exact rfl); exact ld_elem hT rfl rfl (hod.reads (by (repeat (first | exact mcs | apply mcm )))) Due.enc_len rfl hd2 rfl) | (apply es_alloc hT; (iterate 5 exact rfl); first | (fail_if_success (have q := g5)); intro g5 | (fail_if_success (have q := g6)); intro g6) | (apply es_store hT; (iterate 6 exact rfl); (repeat (first | exact sel0 )); (iterate 3 exact rfl); exact nle rfl) | (apply es_callQ; (iterate 7 exact rfl); exact (hG.mono (mem2P (by (repeat (first | exact mcs | apply mcm ))) (by (repeat (first | exact mcs | apply mcm )))))) | (apply es_call; (iterate 7 exact rfl); exact (FSpec.perm (hDi _) (by (repeat (first | exact List.Perm.refl _ | (apply permC; · (repeat (first | exact sel0 | apply selS ))) | (apply permCA; · (repeat (first | exact pullA0 | apply pullAS ))))))); rintro _ _ ⟨rfl, y2, o3, rfl⟩) | (apply es_load; (iterate 5 exact rfl); first | (apply ld_blk hT; exact rfl; exact rfl; (repeat (first | exact mcs | apply mcm )); exact rfl; exact rfl) | (apply ld_all hT; exact rfl; exact rfl; (repeat (first | exact mcs )); exact rfl)) | (apply aw_condF; iterate 2 exact rfl) | (apply es_case; exact rfl; all_goals (intro hb; (fail_if_success (change true = true at hb)); (fail_if_success (change false = false at hb)); (try dsimp only at hb); (try simp only [hb]); (first | replace hb := odt hb | replace hb := odf hb ); (try omega))) | (apply aw_cond; exact rfl; all_goals (intro hb; (try dsimp only at hb); (try simp only [hb]); (first | replace hb := odt hb | replace hb := odf hb ); (try omega))))
                all_goals try omega
                all_goals exact loopq_end (k + 1, o3, y2) (by (try dsimp only); omega) (by (try dsimp only); omega) ⟨rfl, rfl, rfl, rfl, rfl, trivial⟩ (by dsimp only; rw [hst2, hstp]; (repeat (first | exact dt_end | (apply dt_cons; · (repeat (first | exact sel0 | apply selS | apply selApp))) | (apply dt_consA; · (repeat (first | exact pullA0 ))) | apply dt_skip)))
              · rw [if_neg h1] at hstp
                unfold callTab deskTab
                repeat' (first | apply aw_seq | apply aw_region | apply aw_skip | apply aw_block | apply es_nil | apply es_pure hT; iterate 4 exact rfl | apply es_skip; iterate 3 exact rfl | (apply es_i64 hT; (iterate 4 exact rfl); (iterate 2 (first | omega ))) | apply aw_draw [51] [] hmix; decide +kernel | apply es_idx hT; (iterate 8 exact rfl); (iterate 2 omega); exact hDA | (apply es_load; (iterate 5 exact rfl); exact ld_elem hT rfl rfl (hod.reads (by (repeat (first | exact mcs | apply mcm )))) Due.enc_len rfl hd2 rfl) | (apply es_alloc hT; (iterate 5 exact rfl); first | (fail_if_success (have q := g5)); intro g5 | (fail_if_success (have q := g6)); intro g6) | (apply es_store hT; (iterate 6 exact rfl); (repeat (first | exact sel0 )); (iterate 3 exact rfl); exact nle rfl) | (apply es_callQ; (iterate 7 exact rfl); exact (hG.mono (mem2P (by (repeat (first | exact mcs | apply mcm ))) (by (repeat (first | exact mcs | apply mcm )))))) | (apply es_load; (iterate 5 exact rfl); first | (apply ld_blk hT; exact rfl; exact rfl; (repeat (first | exact mcs | apply mcm )); exact rfl; exact rfl) ) | (apply aw_condF; iterate 2 exact rfl) | (apply es_case; exact rfl; all_goals (intro hb; (fail_if_success (change true = true at hb)); (fail_if_success (change false = false at hb)); (try dsimp only at hb); (try simp only [hb]); (first | replace hb := odt hb | replace hb := odf hb ); (try omega))) | (apply aw_cond; exact rfl; all_goals (intro hb; (try dsimp only at hb); (try simp only [hb]); (first | replace hb := odt hb | replace hb := odf hb ); (try omega))))
                all_goals try omega
                all_goals exact loopq_end (k + 1, o2, y) (by (try dsimp only); omega) (by (try dsimp only); omega) ⟨rfl, rfl, rfl, rfl, rfl, trivial⟩ (by dsimp only; rw [hst2, hstp]; (repeat (first | exact dt_end | (apply dt_cons; · (repeat (first | exact sel0 | apply selS ))) | (apply dt_consA; · (repeat (first | exact pullA0 | apply pullAS ))) | apply dt_skip)))
      · obtain rfl : k = xs.length := by omega
        have hdc : decide ((xs.length : Int) < (xs.length : Int)) = false := by simp
        rw [List.take_length] at *
        have hfe := dueAll_books xs s0
        generalize xs.foldl (dueD false) s0 = st at *
        have hf2 : deskFits st.1 bks rows := ⟨by rw [hfe.1]; exact hf0.1, by rw [hfe.2]; exact hf0.2⟩
        unfold callTab deskTab
        repeat' (first | apply aw_seq | apply aw_region | apply aw_ret | apply aw_exit | apply es_nil | apply es_pure hT; iterate 4 exact rfl | (apply es_load; (iterate 5 exact rfl); first | (apply ld_blk hT; exact rfl; exact rfl; (repeat (first | exact mcs | apply mcm )); exact rfl; exact rfl) ) | (apply aw_cond; exact rfl; all_goals (intro hb; (try dsimp only at hb); (try simp only [hb]); (first | replace hb := odt hb | replace hb := odf hb ); (try omega))))
        all_goals try omega
        all_goals (apply ret1; exact rfl; exact ⟨.own o2.A st.2.length o2.c 45 8 (st.2.flatMap OutR.enc) :: deskTab (y.at x.d) st.1 bks rows F, by (unfold deskTab; (repeat (first | exact dt_end | (apply dt_cons; · (repeat (first | exact sel0 | apply selS ))) | (apply dt_consA; · (repeat (first | exact pullA0 | apply pullAS ))) | apply dt_skip))), fun w hw => ⟨y, bks, rows, _, _, rfl, rfl, hf2, hw.ownF mem0⟩⟩)
end Go.Proofs.YtakilgkpfjhfdaaGreat

namespace Go.Proofs.YtakilgkpfjhfdaaGreat
open Go Go.Sl
attribute [local irreducible] AW ES EP Ld RetQ
set_option maxRecDepth 100000
/-! ### in plain words, order by order -/
def gStep (who : Int) (st : List Order × List OutR) (o : Order) : List Order × List OutR := if o.owner = who then (dropO o.id st.1, st.2 ++ [outM who 21 [o.id, o.left]]) else st
def gSide (who : Int) (st : List Order × List OutR) (s : Int) : List Order × List OutR := (sideO s st.1).foldl (gStep who) st
def gBk (who : Int) (l : List Order) (outs : List OutR) : List Order × List OutR := [1, 2].foldl (gSide who) (l, outs)
theorem gStep_fold (who : Int) : ∀ (os : List Order) (l : List Order) (outs : List OutR), os.foldl (gStep who) (l, outs) = ((os.filter fun o => o.owner == who).foldl (fun l o => dropO o.id l) l, outs ++ (os.filter fun o => o.owner == who).map fun o => outM who 21 [o.id, o.left])
  | [], l, outs => by simp
  | o :: os, l, outs => by
    rw [List.foldl_cons, List.filter_cons]
    unfold gStep
    dsimp only
    by_cases h : o.owner = who
    · rw [if_pos h, if_pos (by simpa using h)]
      have := gStep_fold who os (dropO o.id l) (outs ++ [outM who 21 [o.id, o.left]])
      unfold gStep at this
      rw [this, List.foldl_cons, List.map_cons]
      simp
    · rw [if_neg h, if_neg (by simpa using h)]
      have := gStep_fold who os l outs
      unfold gStep at this
      exact this
theorem drop_filter {p : Order → Bool} {id : Int} {l : List Order} (h : ∀ y ∈ l, y.id = id → p y = false) : (dropO id l).filter p = l.filter p := by
  rcases find_at (p := hasO id) l with ⟨hi, hf⟩ | ⟨i, y, hi, hy, hp, hf⟩
  · unfold dropO
    rw [if_pos (by omega)]
  · have hyi : y.id = id := by simpa [hasO] using hp
    obtain ⟨hil, hie⟩ := List.getElem?_eq_some_iff.1 hy
    have e : dropO id l = l.take i ++ l.drop (i + 1) := by
      unfold dropO
      rw [hi, if_neg (by omega)]; simp
    rw [e, List.filter_append]
    have hsp : l.filter p = (l.take i ++ y :: l.drop (i + 1)).filter p := by
      rw [← hie, List.getElem_cons_drop, List.take_append_drop]
    rw [hsp, List.filter_append, List.filter_cons, if_neg (by rw [h y (List.mem_of_getElem? hy) hyi]; decide)]
theorem drops_filter {p : Order → Bool} : ∀ (os l : List Order), BookB l → (∀ o ∈ os, ∀ y ∈ l, y.id = o.id → p y = false) → (os.foldl (fun l o => dropO o.id l) l).filter p = l.filter p
  | [], l, _, _ => rfl
  | o :: os, l, hB, h => by
    rw [List.foldl_cons, drops_filter os (dropO o.id l) (hB.drop _) (fun o' ho' y hy => h o' (mcm _ ho') y (dropO_mem hy)), drop_filter (h o mcs)]
theorem side_after {who : Int} {l : List Order} (hB : BookB l) : sideO 2 ((goneO who 1 l).foldl (fun l o => dropO o.id l) l) = sideO 2 l := by
  unfold sideO
  rw [drops_filter _ _ hB]
  intro o ho y hy he
  have hom := sideO_side (List.mem_filter.1 ho).1
  have : y = o := by
    obtain ⟨i, hi⟩ := List.getElem?_of_mem hy
    obtain ⟨j, hj⟩ := List.getElem?_of_mem hom.1
    obtain ⟨hil, hie⟩ := List.getElem?_eq_some_iff.1 hi
    obtain ⟨hjl, hje⟩ := List.getElem?_eq_some_iff.1 hj
    rcases Nat.lt_trichotomy i j with h | h | h
    · have := List.pairwise_iff_getElem.1 hB.id i j hil hjl h
      rw [hie, hje] at this; exact absurd he this
    · subst h; rw [hi] at hj; cases hj; rfl
    · have := List.pairwise_iff_getElem.1 hB.id j i hjl hil h
      rw [hie, hje] at this; exact absurd he.symm this
  rw [this]
  simp [isSide, hom.2]
theorem gBk_is {who : Int} {l : List Order} {outs : List OutR} (hB : BookB l) : gBk who l outs = (goneB who l, outs ++ (goneO who 1 l ++ goneO who 2 l).map fun o => outM who 21 [o.id, o.left]) := by
  unfold gBk
  rw [List.foldl_cons, List.foldl_cons, List.foldl_nil]
  unfold gSide
  rw [gStep_fold who (sideO 1 l) l outs]
  dsimp only
  have h2 := side_after (who := who) hB
  unfold goneO at h2
  rw [h2, gStep_fold]
  unfold goneB goneO
  rw [List.map_append, List.append_assoc]
def bksN (who : Int) (bs : List (List Order)) (i : Nat) : List (List Order) := (bs.take i).map (goneB who) ++ bs.drop i
def outsN (who : Int) (bs : List (List Order)) (i : Nat) : List OutR := (bs.take i).flatMap fun l => (goneO who 1 l ++ goneO who 2 l).map fun o => outM who 21 [o.id, o.left]
theorem bksN_at {who : Int} {bs : List (List Order)} {i : Nat} {l : List Order} (h : bs[i]? = some l) : (bksN who bs i)[i]? = some l := by
  unfold bksN
  have hi := (List.getElem?_eq_some_iff.1 h).1
  rw [List.getElem?_append_right (by simp; omega), List.length_map, List.length_take, List.getElem?_drop, show i + (i - min i bs.length) = i by omega, h]
theorem bksN_set {who : Int} {bs : List (List Order)} {i : Nat} {l : List Order} (h : bs[i]? = some l) : (bksN who bs i).set i (goneB who l) = bksN who bs (i + 1) := by
  unfold bksN
  obtain ⟨hi, hie⟩ := List.getElem?_eq_some_iff.1 h
  rw [List.take_add_one, h, List.map_append, List.append_assoc, List.set_append_right _ _ (by simp; omega), List.length_map, List.length_take, show i - min i bs.length = 0 by omega, List.drop_eq_getElem_cons hi]
  rfl
theorem outsN_step {who : Int} {bs : List (List Order)} {i : Nat} {l : List Order} (h : bs[i]? = some l) : outsN who bs (i + 1) = outsN who bs i ++ (goneO who 1 l ++ goneO who 2 l).map fun o => outM who 21 [o.id, o.left] := by
  unfold outsN
  rw [List.take_add_one, h, List.flatMap_append]
  simp
theorem bksN_len {who : Int} {bs : List (List Order)} {i : Nat} : (bksN who bs i).length = bs.length := by
  unfold bksN; simp; omega
theorem goneQ_books : ∀ (qs : List Quote) (s : Dk), (qs.foldl (goneQ false) s).books = s.books ∧ (qs.foldl (goneQ false) s).pos = s.pos
  | [], s => ⟨rfl, rfl⟩
  | q :: qs, s => by
    rw [List.foldl_cons]
    have h1 := goneQ_books qs (goneQ false s q)
    have h2 : (goneQ false s q).books = s.books ∧ (goneQ false s q).pos = s.pos := by
      unfold goneQ
      split <;> exact ⟨rfl, rfl⟩
    exact ⟨h1.1.trans h2.1, h1.2.trans h2.2⟩
/-! ### the walk -/
theorem side_desk (W : World) (h : List Chunk) (bd : BAd) (s : Int) (hB : BookB bd.l) (m1 : Chunk.blk bd.p 106 [bd.s.sl bd.l.length] ∈ h) (m2 : bd.s.own bd.l.length 52 6 (bd.l.flatMap Order.enc) ∈ h) :
    FSpec Tryz.prog W 20 [ptrV bd.p, .int .i64 s] h (fun v h' => ∃ A' c', v = .slice A' (sideO s bd.l).length c' ∧ h' = .own A' (sideO s bd.l).length c' 52 6 ((sideO s bd.l).flatMap Order.enc) :: h ∧ OwnF A' (sideO s bd.l).length c' 6 ((sideO s bd.l).flatMap Order.enc)) :=
  book_Side W h bd.p bd.s.A bd.s.c bd.l s m1 m2 hB.le hB.seq hB.side
theorem getB {bks : List BAd} {L : List (List Order)} {P : List Value} {i : Nat} {l : List Order} {v : Value} (h1 : bks.map BAd.l = L) (h2 : bks.map BAd.ptr = P) (hl : L[i]? = some l) (hv : P[i]? = some v) : ∃ bd, bks[i]? = some bd ∧ bd.l = l ∧ BAd.ptr bd = v := by
  subst h1
  subst h2
  rw [List.getElem?_map] at hl hv
  rcases hb : bks[i]? with _ | bd
  · rw [hb] at hl; cases hl
  · rw [hb] at hl hv
    exact ⟨bd, rfl, Option.some.inj hl, Option.some.inj hv⟩
set_option maxHeartbeats 8000000 in
theorem desk_Gone (W : World) (F : List Chunk) (x : DAd) (s : Dk) (bks : List BAd) (rows : List PRow) (N : Nat) (hD : DOK N s) (hN : N ≤ 10000) (hf : deskFits s bks rows) (who : Int) :
    FSpec Tryz.prog W 21 [ptrV x.d, .int .i64 who] (deskTab x s bks rows F) (ActPost x F (goneD false s who)) := by
  refine FSpec.dropF ?_
  have hla : s.asks.length ≤ 1000000 := by have := hD.na; omega
  have hlq : s.quotes.length ≤ 1000000 := by have := hD.nq; omega
  have hld : s.due.length ≤ 1000000 := by have := hD.nd; omega
  have h4 := hD.few
  have hl := fits_len hf
  refine spec_body Tryz.func21 rfl rfl Tryz.results21 Tryz.ntmps21 rfl rfl ?_
  refine aw_conv (fun w hw => ⟨_, hw.own_nil 45 8, ?_⟩)
  have hrd : Reads W (deskTab x s bks rows F) x.books.A s.books.length 1 (bks.map BAd.ptr) := bkptr_reads (c := x.books.c) (t := 48) (by unfold deskTab; (repeat (first | exact mcs | apply mcm))) hl
  refine aw_reads (hrd.mono (h' := .own none 0 0 45 8 [] :: deskTab x s bks rows F) (by (intro c hc; (repeat (first | exact hc | apply mcm))))) rfl (fun hAi => ?_)
  unfold deskTab
  repeat' (first | apply aw_seq | apply aw_region | apply aw_skip | apply aw_block | apply es_nil | apply es_pure hT; iterate 4 exact rfl | apply es_box; (iterate 5 exact rfl); intro g17 | apply es_buildS hT (cs := [.int .i64 0, .int .i64 0, .slice none 0 0]); iterate 4 exact rfl | (apply es_load; (iterate 5 exact rfl); first | (apply ld_blk hT; exact rfl; exact rfl; (repeat (first | exact mcs | apply mcm )); exact rfl; exact rfl) ) | apply aw_condF; iterate 2 exact rfl)
  all_goals try omega
  all_goals
    refine aw_loopD (α := Nat × Sp × List BAd) (E := fun z => [(0, ptrV x.d), (1, .int .i64 who), (5, ptrV g17), (21, x.books.sl s.books.length), (22, .int .i64 s.books.length), (23, .int .i64 z.1)])
      (H := fun z => callTab g17 0 0 z.2.1 (outsN who s.books z.1) (deskTab x { s with books := bksN who s.books z.1 } z.2.2 rows F)) (μ := fun z => s.books.length - z.1)
      (S := fun z => z.1 ≤ s.books.length ∧ z.2.2.map BAd.l = bksN who s.books z.1 ∧ z.2.2.map BAd.ptr = bks.map BAd.ptr ∧ (outsN who s.books z.1).length ≤ 200 * z.1) (0, ⟨none, 0⟩, bks) ⟨Nat.zero_le _, hf.1, rfl, Nat.zero_le _⟩ ⟨rfl, rfl, rfl, rfl, rfl, rfl, trivial⟩ ?_ ?_
    · show DropTo _ (callTab g17 0 0 ⟨none, 0⟩ [] (deskTab x s bks rows F))
      unfold callTab deskTab
      (repeat (first | exact dt_end))
    · rintro ⟨i, o2, bks2⟩ ⟨hi, hb2, hp2, ho2⟩
      dsimp only at hi hb2 hp2 ho2 ⊢
      by_cases hlt : i < s.books.length
      · obtain ⟨l, hl1⟩ : ∃ l, s.books[i]? = some l := ⟨s.books[i]'hlt, List.getElem?_eq_getElem hlt⟩
        have hBl : BookB l := hD.bks l (List.mem_of_getElem? hl1)
        have hlc : decide ((i : Int) < (s.books.length : Int)) = true := by simp; omega
        obtain ⟨pv, hpv⟩ : ∃ pv, (bks.map BAd.ptr)[i]? = some pv := ⟨(bks.map BAd.ptr)[i]'(by simp; omega), List.getElem?_eq_getElem (by simp; omega)⟩
        obtain ⟨bd, hbd1, hbd2, hbd3⟩ := getB hb2 hp2 (bksN_at hl1) hpv
        have hpt : pv = ptrV bd.p := hbd3.symm
        subst hpt
        have hix : (bks.map BAd.ptr)[(i : Int).toNat * 1]? = some (ptrV bd.p) := by rw [Int.toNat_natCast, Nat.mul_one]; exact hpv
        have hbl2 : (bksN who s.books i).length = s.books.length := bksN_len
        have hrd2 : Reads W (callTab g17 0 0 o2 (outsN who s.books i) (deskTab x { s with books := bksN who s.books i } bks2 rows F)) x.books.A s.books.length 1 (bks.map BAd.ptr) := by
          rw [← hp2]
          refine bkptr_reads (c := x.books.c) (t := 48) (h := callTab g17 0 0 o2 (outsN who s.books i) (deskTab x { s with books := bksN who s.books i } bks2 rows F)) ?_ ?_
          · unfold callTab deskTab
            rw [← hbl2]
            (repeat (first | exact mcs | apply mcm))
          · have := congrArg List.length hb2
            rw [List.length_map, hbl2] at this
            exact this
        have hA := hAi (by omega)
        repeat' (first | apply aw_seq | apply aw_region | apply aw_skip | apply aw_block | apply es_nil | apply es_pure hT; iterate 4 exact rfl | apply es_idx hT; (iterate 8 exact rfl); (iterate 2 omega); exact hA | apply es_load; (iterate 5 exact rfl); exact ld_row hT rfl rfl hrd2 rfl hix | apply es_buildSlice (cs := [.int .i64 1, .int .i64 2]) hT; (iterate 12 exact rfl); intro g27 | (apply aw_cond; exact rfl; all_goals (intro hb; (try dsimp only at hb); (try simp only [hb]); (first | replace hb := odt hb | replace hb := odf hb ); (try omega))))
        all_goals try omega
        all_goals
          have hbs := bksN_set (who := who) hl1
          have hos := outsN_step (who := who) hl1
          have hBi := bksN_at (who := who) hl1
          have hsf : (bksN who s.books i).set i l = bksN who s.books i := set_self hBi
          have hgk := gBk_is (who := who) (outs := outsN who s.books i) hBl
          unfold gBk at hgk
          generalize bksN who s.books i = B at *
          generalize outsN who s.books i = O at *
          generalize hnx : bksN who s.books (i + 1) = B' at *
          generalize hno : outsN who s.books (i + 1) = O' at *
          have hiB : i < B.length := by rw [hbl2]; exact hlt
          refine aw_loopD (α := Nat × Sp × List BAd × List Order × List OutR) (E := fun y => [(0, ptrV x.d), (1, .int .i64 who), (5, ptrV g17), (7, ptrV bd.p), (21, x.books.sl s.books.length), (22, .int .i64 s.books.length), (23, .int .i64 i), (27, .slice (some ⟨g27, 0, none⟩) 2 2), (28, .int .i64 2), (29, .int .i64 y.1)])
            (H := fun y => .own (some ⟨g27, 0, none⟩) 2 2 3 1 [.int .i64 1, .int .i64 2] :: callTab g17 0 0 y.2.1 y.2.2.2.2 (deskTab x { s with books := B.set i y.2.2.2.1 } y.2.2.1 rows F)) (μ := fun y => 2 - y.1)
            (S := fun y => y.1 ≤ 2 ∧ (y.2.2.2.1, y.2.2.2.2) = (([1, 2] : List Int).take y.1).foldl (gSide who) (l, O) ∧ y.2.2.1.map BAd.l = B.set i y.2.2.2.1 ∧ y.2.2.1.map BAd.ptr = bks.map BAd.ptr ∧ BookB y.2.2.2.1 ∧ y.2.2.2.2.length ≤ 200 * i + 70 * y.1)
            (0, o2, bks2, l, O) ⟨Nat.zero_le _, rfl, by dsimp only; rw [hsf]; exact hb2, hp2, hBl, by dsimp only; omega⟩ ⟨rfl, rfl, rfl, rfl, rfl, rfl, rfl, rfl, rfl, rfl, trivial⟩ ?_ ?_
          · dsimp only
            rw [hsf]
            unfold callTab deskTab
            (repeat (first | exact dt_end))
          · rintro ⟨j, o3, bks3, lc, oc⟩ ⟨hj, hje, hb3, hp3, hBc, hoc⟩
            dsimp only at hj hje hb3 hp3 hBc hoc ⊢
            by_cases hj2 : j < 2
            · obtain ⟨sd, hsd⟩ : ∃ sd, ([1, 2] : List Int)[j]? = some sd := ⟨([1, 2] : List Int)[j]'hj2, List.getElem?_eq_getElem hj2⟩
              have hjc : decide ((j : Int) < 2) = true := by simp; omega
              have hjx : ([.int .i64 1, .int .i64 2] : List Value)[(j : Int).toNat * 1]? = some (.int .i64 sd) := by
                have : j = 0 ∨ j = 1 := by omega
                rcases this with rfl | rfl <;> (cases hsd; rfl)
              have hstj : (([1, 2] : List Int).take (j + 1)).foldl (gSide who) (l, O) = gSide who (lc, oc) sd := by
                rw [List.take_add_one, hsd, List.foldl_append, ← hje]; rfl
              obtain ⟨⟨p3, sp3, l3⟩, hq1, hq2, hq3⟩ := getB hb3 hp3 (show (B.set i lc)[i]? = some lc by rw [List.getElem?_set, if_pos rfl, if_pos hiB]) hpv
              dsimp only at hq2
              subst hq2
              obtain rfl : p3 = bd.p := by
                unfold BAd.ptr ptrV at hq3
                injection hq3 with hq3
                injection hq3 with hq3
                injection hq3
              have hSd := fun h m1 m2 => side_desk W h ⟨bd.p, sp3, l3⟩ sd hBc m1 m2
              have hol : (sideO sd l3).length ≤ 64 := by
                rw [(sideO_perm sd l3).length_eq]
                exact Nat.le_trans (List.length_filter_le _ _) hBc.len
              unfold gSide at hstj
              dsimp only at hstj
              generalize sideO sd l3 = os at *
              have hr27 : Reads W (.own (some ⟨g27, 0, none⟩) 2 2 3 1 [.int .i64 1, .int .i64 2] :: callTab g17 0 0 o3 oc (deskTab x { s with books := B.set i l3 } bks3 rows F)) (some ⟨g27, 0, none⟩) 2 1 [.int .i64 1, .int .i64 2] := Reads.own mem0 rfl (List.all_eq_true.1 rfl)
              repeat' (first | apply aw_seq | apply aw_region | apply aw_skip | apply aw_block | apply es_nil | apply es_pure hT; iterate 4 exact rfl | apply es_idx hT; (iterate 8 exact rfl); (iterate 2 omega); exact rfl | apply es_load; (iterate 5 exact rfl); exact ld_row hT rfl rfl hr27 rfl hjx | (apply es_call; (iterate 7 exact rfl); exact (hSd _ (mcm _ (in_tab (List.mem_of_getElem? hq1) _ (by unfold BAd.ck; exact mem0))) (mcm _ (in_tab (List.mem_of_getElem? hq1) _ (by unfold BAd.ck; exact mem1)))); rintro _ _ ⟨A5, c5, rfl, rfl, hof⟩) | (apply aw_cond; exact rfl; all_goals (intro hb; (try dsimp only at hb); (try simp only [hb]); (first | replace hb := odt hb | replace hb := odf hb ); (try omega))))
              all_goals try omega
              all_goals
                refine aw_reads (hof.reads mem0) rfl (fun hOi => ?_)
                refine aw_loopD (α := Nat × Sp × List BAd × List Order × List OutR) (E := fun u => [(0, ptrV x.d), (1, .int .i64 who), (5, ptrV g17), (7, ptrV bd.p), (21, x.books.sl s.books.length), (22, .int .i64 s.books.length), (23, .int .i64 i), (27, .slice (some ⟨g27, 0, none⟩) 2 2), (28, .int .i64 2), (29, .int .i64 j), (35, .slice A5 os.length c5), (36, .int .i64 os.length), (37, .int .i64 u.1)])
                  (H := fun u => .own A5 os.length c5 52 6 (os.flatMap Order.enc) :: .own (some ⟨g27, 0, none⟩) 2 2 3 1 [.int .i64 1, .int .i64 2] :: callTab g17 0 0 u.2.1 u.2.2.2.2 (deskTab x { s with books := B.set i u.2.2.2.1 } u.2.2.1 rows F)) (μ := fun u => os.length - u.1)
                  (S := fun u => u.1 ≤ os.length ∧ (u.2.2.2.1, u.2.2.2.2) = (os.take u.1).foldl (gStep who) (l3, oc) ∧ u.2.2.1.map BAd.l = B.set i u.2.2.2.1 ∧ u.2.2.1.map BAd.ptr = bks.map BAd.ptr ∧ BookB u.2.2.2.1 ∧ u.2.2.2.2.length ≤ 200 * i + 70 * j + u.1)
                  (0, o3, bks3, l3, oc) ⟨Nat.zero_le _, rfl, hb3, hp3, hBc, by dsimp only; omega⟩ ⟨rfl, rfl, rfl, rfl, rfl, rfl, rfl, rfl, rfl, rfl, rfl, rfl, rfl, trivial⟩ ?_ ?_
                · dsimp only
                  unfold callTab deskTab
                  (repeat (first | exact dt_end))
                · rintro ⟨k, o4, bks4, l1, o1⟩ ⟨hk, hke, hb4, hp4, hB1, ho1⟩
                  dsimp only at hk hke hb4 hp4 hB1 ho1 ⊢
                  by_cases hk2 : k < os.length
                  · obtain ⟨od, hod⟩ : ∃ od, os[k]? = some od := ⟨os[k]'hk2, List.getElem?_eq_getElem hk2⟩
                    have hod2 : os[(k : Int).toNat]? = some od := by simpa using hod
                    have hkc : decide ((k : Int) < (os.length : Int)) = true := by simp; omega
                    have hOA := hOi (by omega)
                    have hstk : (os.take (k + 1)).foldl (gStep who) (l3, oc) = gStep who (l1, o1) od := by
                      rw [List.take_add_one, hod, List.foldl_append, ← hke]; rfl
                    obtain ⟨⟨p4, sp4, l4⟩, hr1, hr2, hr3⟩ := getB hb4 hp4 (show (B.set i l1)[i]? = some l1 by rw [List.getElem?_set, if_pos rfl, if_pos hiB]) hpv
                    dsimp only at hr2
                    subst hr2
                    obtain rfl : p4 = bd.p := by
                      unfold BAd.ptr ptrV at hr3
                      injection hr3 with hr3
                      injection hr3 with hr3
                      injection hr3
                    have hbo : o1.length ≤ 1000000 := by omega
                    unfold gStep at hstk
                    dsimp only at hstk
                    by_cases hwo : od.owner = who
                    · rw [if_pos hwo] at hstk
                      have hDr := fun G => drop_desk W G x { s with books := B.set i l4 } bks4 rows g17 0 0 o4 o1 i ⟨bd.p, sp4, l4⟩ od.id hr1 hB1.le
                      dsimp only at hDr
                      simp only [List.set_set] at hDr
                      unfold callTab
                      repeat' (first | apply aw_seq | apply aw_region | apply aw_skip | apply aw_block | apply es_nil | apply es_pure hT; iterate 4 exact rfl | (apply es_i64 hT; (iterate 4 exact rfl); (iterate 2 (first | omega ))) | apply es_idx hT; (iterate 8 exact rfl); (iterate 2 omega); exact hOA | (apply es_load; (iterate 5 exact rfl); exact ld_elem hT rfl rfl (hof.reads (by (repeat (first | exact mcs | apply mcm | apply mar)))) Order.enc_len rfl hod2 rfl) | (apply es_alloc hT; (iterate 5 exact rfl); first | (fail_if_success (have q := g11)); intro g11) | (apply es_store hT; (iterate 6 exact rfl); (repeat (first | exact sel0 )); (iterate 3 exact rfl); exact nle rfl) | (apply es_call; (iterate 7 exact rfl); exact (FSpec.perm (hDr _) (by unfold callTab; (repeat (first | exact List.Perm.refl _ | (apply permC; · (repeat (first | exact sel0 | apply selS ))) | (apply permCA; · (repeat (first | exact pullA0 | apply pullAS ))))))); rintro _ _ ⟨rfl, sp5, rfl⟩) | (apply es_buildSlice (cs := [.int .i64 od.id, .int .i64 od.left]) hT; (iterate 12 exact rfl); intro g55) | (apply es_call; (iterate 7 exact rfl); exact (desk_tells W _ g17 0 0 o4 o1 _ (some ⟨g55, 0, none⟩) 2 who 21 [od.id, od.left] (by (repeat (first | exact List.Perm.refl _ | (apply permC; · (repeat (first | exact sel0 | apply selS ))) ))) (by (repeat (first | exact mcs ))) (Nat.le_of_ble_eq_true rfl) hbo); rintro _ _ ⟨rfl, o5, rfl⟩) | (apply es_load; (iterate 5 exact rfl); first | (apply ld_blk hT; exact rfl; exact rfl; (repeat (first | exact mcs | apply mcm | apply mar)); exact rfl; exact rfl) ) | (apply aw_cond; exact rfl; all_goals (intro hb; (try dsimp only at hb); (try simp only [hb]); (first | replace hb := odt hb | replace hb := odf hb ); (try omega))))
                      all_goals try omega
                      all_goals
                        refine loopq_end (k + 1, o5, bks4.set i ⟨bd.p, sp5, dropO od.id l4⟩, dropO od.id l4, o1 ++ [outM who 21 [od.id, od.left]]) (by (try dsimp only); omega) ⟨by (try dsimp only); omega, hstk.symm, by dsimp only; rw [List.map_set, hb4, List.set_set], by dsimp only; rw [set_ptr (b' := ⟨bd.p, sp5, dropO od.id l4⟩) hr1 rfl]; exact hp4, hB1.drop _, by dsimp only; rw [List.length_append]; show o1.length + 1 ≤ _; omega⟩ ⟨rfl, rfl, rfl, rfl, rfl, rfl, rfl, rfl, rfl, rfl, rfl, rfl, rfl, trivial⟩ ?_
                        dsimp only
                        unfold callTab deskTab
                        (repeat (first | exact dt_end | (apply dt_cons; · (repeat (first | exact sel0 | apply selS | apply selApp))) | (apply dt_consA; · (repeat (first | exact pullA0 | apply pullAS ))) | apply dt_skip))
                    · rw [if_neg hwo] at hstk
                      unfold callTab deskTab
                      repeat' (first | apply aw_seq | apply aw_region | apply aw_skip | apply aw_block | apply es_nil | apply es_pure hT; iterate 4 exact rfl | (apply es_i64 hT; (iterate 4 exact rfl); (iterate 2 (first | omega ))) | apply es_idx hT; (iterate 8 exact rfl); (iterate 2 omega); exact hOA | (apply es_load; (iterate 5 exact rfl); exact ld_elem hT rfl rfl (hof.reads (by (repeat (first | exact mcs | apply mcm )))) Order.enc_len rfl hod2 rfl) | (apply es_alloc hT; (iterate 5 exact rfl); first | (fail_if_success (have q := g11)); intro g11) | (apply es_store hT; (iterate 6 exact rfl); (repeat (first | exact sel0 )); (iterate 3 exact rfl); exact nle rfl) | (apply es_load; (iterate 5 exact rfl); first | (apply ld_blk hT; exact rfl; exact rfl; (repeat (first | exact mcs )); exact rfl; exact rfl) ) | (apply aw_cond; exact rfl; all_goals (intro hb; (try dsimp only at hb); (try simp only [hb]); (first | replace hb := odt hb | replace hb := odf hb ); (try omega))))
                      all_goals try omega
                      all_goals exact loopq_end (k + 1, o4, bks4, l4, o1) (by (try dsimp only); omega) ⟨by (try dsimp only); omega, hstk.symm, hb4, hp4, hB1, by dsimp only; omega⟩ ⟨rfl, rfl, rfl, rfl, rfl, rfl, rfl, rfl, rfl, rfl, rfl, rfl, rfl, trivial⟩ (by dsimp only; (repeat (first | exact dt_end | (apply dt_cons; · (repeat (first | exact sel0 | apply selS ))) | (apply dt_consA; · (repeat (first | exact pullA0 | apply pullAS ))) | apply dt_skip)))
                  · obtain rfl : k = os.length := by omega
                    have hkc : decide ((os.length : Int) < (os.length : Int)) = false := by simp
                    rw [List.take_length, ← hstj] at hke
                    unfold callTab deskTab
                    repeat' (first | apply aw_seq | apply aw_region | apply aw_exit | apply es_nil | apply es_pure hT; iterate 4 exact rfl | (apply es_i64 hT; (iterate 4 exact rfl); (iterate 2 (first | omega ))) | (apply aw_cond; exact rfl; all_goals (intro hb; (try dsimp only at hb); (try simp only [hb]); (first | replace hb := odt hb | replace hb := odf hb ); (try omega))))
                    all_goals try omega
                    all_goals exact loopq_end (j + 1, o4, bks4, l1, o1) (by (try dsimp only); omega) ⟨by (try dsimp only); omega, hke, hb4, hp4, hB1, by dsimp only; omega⟩ ⟨rfl, rfl, rfl, rfl, rfl, rfl, rfl, rfl, rfl, rfl, trivial⟩ (by dsimp only; (repeat (first | exact dt_end | (apply dt_cons; · (repeat (first | exact sel0 | apply selS ))) | (apply dt_consA; · (repeat (first | exact pullA0 | apply pullAS ))) | apply dt_skip)))
            · obtain rfl : j = 2 := by omega
              have hjc : decide ((2 : Int) < 2) = false := by decide
              rw [show ([1, 2] : List Int).take 2 = [1, 2] from rfl, hgk, ← hos] at hje
              obtain ⟨rfl, rfl⟩ := Prod.mk.inj hje
              rw [hbs] at hb3
              unfold callTab deskTab
              repeat' (first | apply aw_seq | apply aw_region | apply aw_exit | apply es_nil | apply es_pure hT; iterate 4 exact rfl | (apply es_i64 hT; (iterate 4 exact rfl); (iterate 2 (first | omega ))) | apply aw_condF; iterate 2 exact rfl)
              all_goals try omega
              all_goals exact loopq_end (i + 1, o3, bks3) (by (try dsimp only); omega) ⟨by (try dsimp only); omega, by dsimp only; rw [hnx]; exact hb3, hp3, by dsimp only; rw [hno]; omega⟩ ⟨rfl, rfl, rfl, rfl, rfl, rfl, trivial⟩ (by dsimp only; rw [hnx, hno, ← hbs]; (repeat (first | exact dt_end | (apply dt_cons; · (repeat (first | exact sel0 | apply selS ))) | (apply dt_consA; · (repeat (first | exact pullA0 | apply pullAS ))) | apply dt_skip)))
      · obtain rfl : i = s.books.length := by omega
        have hlc : decide ((s.books.length : Int) < (s.books.length : Int)) = false := by simp
        have hB0 : bksN who s.books s.books.length = s.books.map (goneB who) := by unfold bksN; rw [List.take_length, List.drop_length, List.append_nil]
        have hO0 : outsN who s.books s.books.length = s.books.flatMap fun l => (goneO who 1 l ++ goneO who 2 l).map fun o => outM who 21 [o.id, o.left] := by unfold outsN; rw [List.take_length]
        unfold goneD
        rw [← hO0]
        have hD1 : DOK N { s with books := s.books.map (goneB who) } := hD.books (by simp) (fun l hl => by
          obtain ⟨m, hm, rfl⟩ := List.mem_map.1 hl
          exact goneB_mem.2 (hD.bks m hm)) (fun l hl o ho => by
          obtain ⟨m, hm, rfl⟩ := List.mem_map.1 hl
          exact hD.bid m hm o (goneB_mem.1 o ho))
        rw [← hB0] at hD1 ⊢
        have hOf := fun G => quo_Of W G x.q x.quotes.A x.quotes.c s.quotes who hlq
        have hql : (s.quotes.filter (isOf who)).length ≤ 1000000 := Nat.le_trans (List.length_filter_le _ _) hlq
        generalize outsN who s.books s.books.length = O at *
        generalize s.quotes.filter (isOf who) = qs at *
        generalize bksN who s.books s.books.length = B at *
        have hf1 : deskFits ({ s with books := B } : Dk) bks2 rows := ⟨hb2, hf.2⟩
        unfold callTab deskTab
        repeat' (first | apply aw_seq | apply aw_region | apply aw_exit | apply aw_block | apply es_nil | apply es_pure hT; iterate 4 exact rfl | (apply es_call; (iterate 7 exact rfl); exact (FSpec.perm (hOf _) (by (repeat (first | exact List.Perm.refl _ | (apply permC; · (repeat (first | exact sel0 | apply selS ))) )))); rintro _ _ ⟨A6, c6, rfl, rfl, hof⟩) | (apply es_load; (iterate 5 exact rfl); first | (apply ld_blk hT; exact rfl; exact rfl; (repeat (first | exact mcs | apply mcm )); exact rfl; exact rfl) ) | (apply aw_cond; exact rfl; all_goals (intro hb; (try dsimp only at hb); (try simp only [hb]); (first | replace hb := odt hb | replace hb := odf hb ); (try omega))))
        all_goals try omega
        all_goals
          refine aw_loopD (α := Nat × Sp) (E := fun z => [(0, ptrV x.d), (5, ptrV g17), (65, .slice A6 qs.length c6), (66, .int .i64 qs.length), (67, .int .i64 z.1)])
            (H := fun z => .own A6 qs.length c6 115 6 (qs.flatMap Quote.enc) :: callTab g17 0 0 o2 O (deskTab { x with due := z.2 } ((qs.take z.1).foldl (goneQ false) { s with books := B }) bks2 rows F)) (μ := fun z => qs.length - z.1)
            (S := fun z => z.1 ≤ qs.length) (0, x.due) (Nat.zero_le _) ⟨rfl, rfl, rfl, rfl, rfl, trivial⟩ ?_ ?_
          · show DropTo _ (.own A6 qs.length c6 115 6 (qs.flatMap Quote.enc) :: callTab g17 0 0 o2 O (deskTab x { s with books := B } bks2 rows F))
            unfold callTab deskTab
            (repeat (first | exact dt_end | (apply dt_cons; · (repeat (first | exact sel0 | apply selS )))))
          · rintro ⟨k, u⟩ hk
            dsimp only at hk ⊢
            have hDk : DOK N ((qs.take k).foldl (goneQ false) { s with books := B }) := DOK.goneAll (qs.take k) (s := { s with books := B }) hD1
            by_cases hk2 : k < qs.length
            · obtain ⟨q, hq⟩ : ∃ q, qs[k]? = some q := ⟨qs[k]'hk2, List.getElem?_eq_getElem hk2⟩
              have hq2 : qs[(k : Int).toNat]? = some q := by simpa using hq
              have hkc : decide ((k : Int) < (qs.length : Int)) = true := by simp; omega
              have hst : (qs.take (k + 1)).foldl (goneQ false) { s with books := B } = goneQ false ((qs.take k).foldl (goneQ false) { s with books := B }) q := by
                rw [List.take_add_one, hq, List.foldl_append]; rfl
              generalize (qs.take k).foldl (goneQ false) ({ s with books := B } : Dk) = st at *
              generalize hst2 : (qs.take (k + 1)).foldl (goneQ false) ({ s with books := B } : Dk) = st2 at *
              have hla2 : st.asks.length ≤ 1000000 := by have := hDk.na; omega
              have hlq2 : st.quotes.length ≤ 1000000 := by have := hDk.nq; omega
              have hld2 : st.due.length ≤ 1000000 := by have := hDk.nd; omega
              have hLk := desk_isLooked W ({ x with due := u } : DAd) st q hDk.upa hla2
              have hKl := fun G => quo_Kill W G x.q x.quotes.A x.quotes.c st.quotes q.id hlq2 hDk.upq
              have hDr := fun G => due_Drop W G x.u u.A u.c st.due 3 q.id hld2
              unfold goneQ at hst
              refine aw_reads (hof.reads mem0) rfl (fun hQi => ?_)
              have hQA := hQi (by omega)
              cases hlk : isLooked st q
              · rw [hlk] at hLk hst
                rw [if_neg (by decide)] at hst
                unfold callTab deskTab
                repeat' (first | apply aw_seq | apply aw_region | apply aw_skip | apply aw_block | apply es_nil | apply es_pure hT; iterate 4 exact rfl | (apply es_i64 hT; (iterate 4 exact rfl); (iterate 2 (first | omega ))) | apply aw_draw [] [] hmix; decide +kernel | apply es_idx hT; (iterate 8 exact rfl); (iterate 2 omega); exact hQA | (apply es_load; (iterate 5 exact rfl); exact ld_elem hT rfl rfl (hof.reads (by (repeat (first | exact mcs | apply mcm )))) Quote.enc_len rfl hq2 rfl) | (apply es_alloc hT; (iterate 5 exact rfl); first | (fail_if_success (have q := g13)); intro g13) | (apply es_store hT; (iterate 6 exact rfl); (repeat (first | exact sel0 )); (iterate 3 exact rfl); exact nle rfl) | (apply es_callQ; (iterate 7 exact rfl); exact (hLk.mono (mem3P (by (repeat (first | exact mcs | apply mcm ))) (by (repeat (first | exact mcs | apply mcm ))) (by (repeat (first | exact mcs | apply mcm )))))) | (apply es_call; (iterate 7 exact rfl); exact (FSpec.perm (hKl _) (by (repeat (first | exact List.Perm.refl _ | (apply permC; · (repeat (first | exact sel0 | apply selS ))) )))); rintro _ _ ⟨rfl, rfl⟩) | (apply es_call; (iterate 7 exact rfl); exact (FSpec.perm (hDr _) (by (repeat (first | exact List.Perm.refl _ | (apply permC; · (repeat (first | exact sel0 | apply selS ))) )))); rintro _ _ ⟨rfl, A7, c7, rfl⟩) | (apply es_load; (iterate 5 exact rfl); first | (apply ld_blk hT; exact rfl; exact rfl; (repeat (first | exact mcs | apply mcm )); exact rfl; exact rfl) | (apply ld_all hT; exact rfl; exact rfl; (repeat (first | exact mcs )); exact rfl)) | (apply aw_condT; iterate 2 exact rfl) | (apply aw_cond; exact rfl; all_goals (intro hb; (try dsimp only at hb); (try simp only [hb]); (first | replace hb := odt hb | replace hb := odf hb ); (try omega))))
                all_goals try omega
                all_goals exact loopq_end (k + 1, ⟨A7, c7⟩) (by (try dsimp only); omega) (by (try dsimp only); omega) ⟨rfl, rfl, rfl, rfl, rfl, trivial⟩ (by dsimp only; rw [hst2, hst]; (repeat (first | exact dt_end | (apply dt_cons; · (repeat (first | exact sel0 | apply selS ))) | (apply dt_consA; · (repeat (first | exact pullA0 | apply pullAS ))) | apply dt_skip)))
              · rw [hlk] at hLk hst
                rw [if_pos rfl] at hst
                unfold callTab deskTab
                repeat' (first | apply aw_seq | apply aw_region | apply aw_skip | apply aw_block | apply es_nil | apply es_pure hT; iterate 4 exact rfl | (apply es_i64 hT; (iterate 4 exact rfl); (iterate 2 (first | omega ))) | apply es_idx hT; (iterate 8 exact rfl); (iterate 2 omega); exact hQA | (apply es_load; (iterate 5 exact rfl); exact ld_elem hT rfl rfl (hof.reads (by (repeat (first | exact mcs | apply mcm )))) Quote.enc_len rfl hq2 rfl) | (apply es_alloc hT; (iterate 5 exact rfl); first | (fail_if_success (have q := g13)); intro g13) | (apply es_store hT; (iterate 6 exact rfl); (repeat (first | exact sel0 )); (iterate 3 exact rfl); exact nle rfl) | (apply es_callQ; (iterate 7 exact rfl); exact (hLk.mono (mem3P (by (repeat (first | exact mcs | apply mcm ))) (by (repeat (first | exact mcs | apply mcm ))) (by (repeat (first | exact mcs | apply mcm )))))) | (apply es_load; (iterate 5 exact rfl); first | (apply ld_all hT; exact rfl; exact rfl; (repeat (first | exact mcs )); exact rfl)) | (apply aw_condF; iterate 2 exact rfl) | (apply aw_cond; exact rfl; all_goals (intro hb; (try dsimp only at hb); (try simp only [hb]); (first | replace hb := odt hb | replace hb := odf hb ); (try omega))))
                all_goals try omega
                all_goals exact loopq_end (k + 1, u) (by (try dsimp only); omega) (by (try dsimp only); omega) ⟨rfl, rfl, rfl, rfl, rfl, trivial⟩ (by dsimp only; rw [hst2, hst]; (repeat (first | exact dt_end | (apply dt_cons; · (repeat (first | exact sel0 | apply selS ))) | (apply dt_consA; · (repeat (first | exact pullA0 | apply pullAS ))) | apply dt_skip)))
            · obtain rfl : k = qs.length := by omega
              have hkc : decide ((qs.length : Int) < (qs.length : Int)) = false := by simp
              rw [List.take_length] at *
              have hbk := goneQ_books qs ({ s with books := B } : Dk)
              generalize qs.foldl (goneQ false) ({ s with books := B } : Dk) = st at *
              have hf2 : deskFits st bks2 rows := ⟨by rw [hbk.1]; exact hf1.1, by rw [hbk.2]; exact hf1.2⟩
              unfold callTab deskTab
              repeat' (first | apply aw_seq | apply aw_region | apply aw_ret | apply aw_exit | apply es_nil | apply es_pure hT; iterate 4 exact rfl | (apply es_load; (iterate 5 exact rfl); first | (apply ld_blk hT; exact rfl; exact rfl; (repeat (first | exact mcs | apply mcm )); exact rfl; exact rfl) ) | (apply aw_cond; exact rfl; all_goals (intro hb; (try dsimp only at hb); (try simp only [hb]); (first | replace hb := odt hb | replace hb := odf hb ); (try omega))))
              all_goals try omega
              all_goals (apply ret1; exact rfl; exact ⟨.own o2.A O.length o2.c 45 8 (O.flatMap OutR.enc) :: deskTab (({ x with due := u } : DAd).at x.d) st bks2 rows F, by (unfold deskTab; (repeat (first | exact dt_end | (apply dt_cons; · (repeat (first | exact sel0 | apply selS ))) | (apply dt_consA; · (repeat (first | exact pullA0 | apply pullAS ))) | apply dt_skip))), fun w hw => ⟨{ x with due := u }, bks2, rows, _, _, rfl, rfl, hf2, hw.ownF mem0⟩⟩)
end Go.Proofs.YtakilgkpfjhfdaaGreat

namespace Go.Proofs.YtakilgkpfjhfdaaGreat
open Go Go.Sl
attribute [local irreducible] AW ES EP Ld RetQ
set_option maxRecDepth 100000
/-! ### rules -/
def wayB (w : Int) : List BondR := if w = 1 then [kb2] else if w = 2 then [kb2, kb1] else [kb1, kb2]
def wayP (w : Int) : List PartyR := if w = 3 then kps ++ [⟨1, 12, 0⟩, ⟨2, 0, 0⟩] else kps
def wayL (w : Int) : Int := if w = 1 then 1 else 3
def wayBt (w : Int) : Int := if w = 2 then 4 else 50
def wayD (w : Int) : Dk := newDk (wayB w) (wayP w) (wayL w) (wayBt w)
theorem and3 (way : Int) : ∃ w, bitI .and .i64 way 3 = w ∧ (w = 0 ∨ w = 1 ∨ w = 2 ∨ w = 3) := by
  refine ⟨_, rfl, ?_⟩
  have e : bitI .and .i64 way 3 = IntKind.wrap .i64 ((BitVec.ofInt 64 way &&& BitVec.ofInt 64 3).toNat : Int) := rfl
  rw [e]
  clear e
  have h : (BitVec.ofInt 64 way &&& BitVec.ofInt 64 3).toNat < 4 := by
    rw [BitVec.toNat_and]
    have : (BitVec.ofInt 64 3).toNat = 3 := by decide
    rw [this]
    exact Nat.lt_of_le_of_lt Nat.and_le_right (by decide)
  generalize (BitVec.ofInt 64 way &&& BitVec.ofInt 64 3).toNat = n at *
  have : n = 0 ∨ n = 1 ∨ n = 2 ∨ n = 3 := by omega
  rcases this with rfl | rfl | rfl | rfl <;> decide
theorem wayR {w : Int} (hw : w = 0 ∨ w = 1 ∨ w = 2 ∨ w = 3) : isR (wayB w) (wayP w) (wayL w) (wayBt w) = true := by
  rcases hw with rfl | rfl | rfl | rfl <;> decide +kernel
def RulesPost (h : List Chunk) (w : Int) (v : Value) (h' : List Chunk) : Prop :=
  ∃ A1 c1 A2 c2, v = rulesV A1 (wayB w).length c1 A2 (wayP w).length c2 (wayL w) (wayBt w) ∧ h' = .own A1 (wayB w).length c1 79 7 ((wayB w).flatMap BondR.enc) :: .own A2 (wayP w).length c2 82 3 ((wayP w).flatMap PartyR.enc) :: h
set_option maxHeartbeats 4000000 in
theorem rules_w (W : World) (h : List Chunk) (way w : Int) (hw : bitI .and .i64 way 3 = w) (hw4 : w = 0 ∨ w = 1 ∨ w = 2 ∨ w = 3) : FSpec Tryz.prog W 14 [.int .i64 way] h (RulesPost h w) := by
  refine FSpec.dropTo ?_
  refine spec_body Tryz.func14 rfl rfl Tryz.results14 Tryz.ntmps14 rfl rfl ?_
  rcases hw4 with rfl | rfl | rfl | rfl
  · skip
    repeat' (first | apply aw_seq | apply aw_region | apply aw_ret | apply aw_skip | apply aw_block | apply es_nil | apply es_pure hT; iterate 4 exact rfl | apply es_buildS hT (cs := BondR.enc kb1); iterate 4 exact rfl | apply es_buildS hT (cs := BondR.enc kb2); iterate 4 exact rfl | apply es_buildS hT (cs := PartyR.enc ⟨1, 12, 0⟩); iterate 4 exact rfl | apply es_buildS hT (cs := PartyR.enc ⟨1, 4, 0⟩); iterate 4 exact rfl | apply es_buildS hT (cs := PartyR.enc ⟨2, 0, 100000⟩); iterate 4 exact rfl | apply es_buildS hT (cs := PartyR.enc ⟨2, 0, 3000⟩); iterate 4 exact rfl | apply es_buildS hT (cs := PartyR.enc ⟨3, 0, 0⟩); iterate 4 exact rfl | (apply es_buildSlice hT; (iterate 12 exact rfl); first | (fail_if_success (have q := g10)); intro g10 | (fail_if_success (have q := g16)); intro g16) | (apply es_buildS hT (cs := (rulesV (some ⟨g10, 0, none⟩) 2 2 (some ⟨g16, 0, none⟩) 5 5 3 50).cells.toList); iterate 4 exact rfl) | (apply es_bitsV; (iterate 6 exact rfl); exact hw) | (apply es_store hT; (iterate 6 exact rfl); (repeat (first | exact sel0 | apply selS )); (iterate 3 exact rfl); exact nle rfl) | (apply es_load; (iterate 5 exact rfl); first | (apply ld_all hT; exact rfl; exact rfl; (repeat (first | exact mcs | apply mcm )); exact rfl)) | (apply es_alloc hT; (iterate 5 exact rfl); intro _) | (apply aw_condF; iterate 2 exact rfl))
    all_goals (apply ret1c; exact rfl; (apply ld_all hT; exact rfl; exact rfl; (repeat (first | exact mcs)); exact rfl); exact ⟨_, by show DropTo _ (.own (some ⟨g10, 0, none⟩) 2 2 79 7 ((wayB 0).flatMap BondR.enc) :: .own (some ⟨g16, 0, none⟩) 5 5 82 3 ((wayP 0).flatMap PartyR.enc) :: h); (repeat (first | exact dt_end | (apply dt_cons; · (repeat (first | exact sel0 | apply selS ))) | apply dt_skip)), _, _, _, _, rfl, rfl⟩)
  · skip
    repeat' (first | apply aw_seq | apply aw_region | apply aw_ret | apply aw_block | apply es_nil | apply es_pure hT; iterate 4 exact rfl | apply es_buildS hT (cs := BondR.enc kb1); iterate 4 exact rfl | apply es_buildS hT (cs := BondR.enc kb2); iterate 4 exact rfl | apply es_buildS hT (cs := PartyR.enc ⟨1, 12, 0⟩); iterate 4 exact rfl | apply es_buildS hT (cs := PartyR.enc ⟨1, 4, 0⟩); iterate 4 exact rfl | apply es_buildS hT (cs := PartyR.enc ⟨2, 0, 100000⟩); iterate 4 exact rfl | apply es_buildS hT (cs := PartyR.enc ⟨2, 0, 3000⟩); iterate 4 exact rfl | apply es_buildS hT (cs := PartyR.enc ⟨3, 0, 0⟩); iterate 4 exact rfl | (apply es_buildSlice hT; (iterate 12 exact rfl); first | (fail_if_success (have q := g10)); intro g10 | (fail_if_success (have q := g16)); intro g16 | intro g39) | (apply es_buildS hT (cs := (rulesV (some ⟨g10, 0, none⟩) 2 2 (some ⟨g16, 0, none⟩) 5 5 3 50).cells.toList); iterate 4 exact rfl) | (apply es_bitsV; (iterate 6 exact rfl); exact hw) | (apply es_store hT; (iterate 6 exact rfl); (repeat (first | exact sel0 | apply selS )); (iterate 3 exact rfl); exact nle rfl) | (apply es_load; (iterate 5 exact rfl); first | (apply ld_all hT; exact rfl; exact rfl; (repeat (first | exact mcs | apply mcm )); exact rfl)) | (apply es_alloc hT; (iterate 5 exact rfl); intro _) | (apply aw_condT; iterate 2 exact rfl))
    all_goals (apply ret1c; exact rfl; (apply ld_all hT; exact rfl; exact rfl; (repeat (first | exact mcs)); exact rfl); exact ⟨_, by show DropTo _ (.own (some ⟨g39, 0, none⟩) 1 1 79 7 ((wayB 1).flatMap BondR.enc) :: .own (some ⟨g16, 0, none⟩) 5 5 82 3 ((wayP 1).flatMap PartyR.enc) :: h); (repeat (first | exact dt_end | (apply dt_cons; · (repeat (first | exact sel0 | apply selS ))) | apply dt_skip)), _, _, _, _, rfl, rfl⟩)
  · skip
    repeat' (first | apply aw_seq | apply aw_region | apply aw_ret | apply aw_block | apply es_nil | apply es_pure hT; iterate 4 exact rfl | apply es_buildS hT (cs := BondR.enc kb1); iterate 4 exact rfl | apply es_buildS hT (cs := BondR.enc kb2); iterate 4 exact rfl | apply es_buildS hT (cs := PartyR.enc ⟨1, 12, 0⟩); iterate 4 exact rfl | apply es_buildS hT (cs := PartyR.enc ⟨1, 4, 0⟩); iterate 4 exact rfl | apply es_buildS hT (cs := PartyR.enc ⟨2, 0, 100000⟩); iterate 4 exact rfl | apply es_buildS hT (cs := PartyR.enc ⟨2, 0, 3000⟩); iterate 4 exact rfl | apply es_buildS hT (cs := PartyR.enc ⟨3, 0, 0⟩); iterate 4 exact rfl | (apply es_buildSlice hT; (iterate 12 exact rfl); first | (fail_if_success (have q := g10)); intro g10 | (fail_if_success (have q := g16)); intro g16 | intro g39) | (apply es_buildS hT (cs := (rulesV (some ⟨g10, 0, none⟩) 2 2 (some ⟨g16, 0, none⟩) 5 5 3 50).cells.toList); iterate 4 exact rfl) | (apply es_bitsV; (iterate 6 exact rfl); exact hw) | (apply es_store hT; (iterate 6 exact rfl); (repeat (first | exact sel0 | apply selS )); (iterate 3 exact rfl); exact nle rfl) | (apply es_load; (iterate 5 exact rfl); first | (apply ld_all hT; exact rfl; exact rfl; (repeat (first | exact mcs | apply mcm )); exact rfl)) | (apply es_alloc hT; (iterate 5 exact rfl); intro _) | (apply aw_condT; iterate 2 exact rfl) | (apply aw_condF; iterate 2 exact rfl))
    all_goals (apply ret1c; exact rfl; (apply ld_all hT; exact rfl; exact rfl; (repeat (first | exact mcs)); exact rfl); exact ⟨_, by show DropTo _ (.own (some ⟨g39, 0, none⟩) 2 2 79 7 ((wayB 2).flatMap BondR.enc) :: .own (some ⟨g16, 0, none⟩) 5 5 82 3 ((wayP 2).flatMap PartyR.enc) :: h); (repeat (first | exact dt_end | (apply dt_cons; · (repeat (first | exact sel0 | apply selS ))) | apply dt_skip)), _, _, _, _, rfl, rfl⟩)
  · skip
    repeat' (first | apply aw_seq | apply aw_region | apply aw_ret | apply aw_block | apply es_nil | apply es_pure hT; iterate 4 exact rfl | apply es_buildS hT (cs := BondR.enc kb1); iterate 4 exact rfl | apply es_buildS hT (cs := BondR.enc kb2); iterate 4 exact rfl | apply es_buildS hT (cs := PartyR.enc ⟨1, 12, 0⟩); iterate 4 exact rfl | apply es_buildS hT (cs := PartyR.enc ⟨1, 4, 0⟩); iterate 4 exact rfl | apply es_buildS hT (cs := PartyR.enc ⟨2, 0, 100000⟩); iterate 4 exact rfl | apply es_buildS hT (cs := PartyR.enc ⟨2, 0, 3000⟩); iterate 4 exact rfl | apply es_buildS hT (cs := PartyR.enc ⟨3, 0, 0⟩); iterate 4 exact rfl | apply es_buildS hT (cs := PartyR.enc ⟨2, 0, 0⟩); iterate 4 exact rfl | (apply es_buildSlice hT; (iterate 12 exact rfl); first | (fail_if_success (have q := g10)); intro g10 | (fail_if_success (have q := g16)); intro g16 | intro g39) | (apply es_buildS hT (cs := (rulesV (some ⟨g10, 0, none⟩) 2 2 (some ⟨g16, 0, none⟩) 5 5 3 50).cells.toList); iterate 4 exact rfl) | (apply es_bitsV; (iterate 6 exact rfl); exact hw) | (apply es_store hT; (iterate 6 exact rfl); (repeat (first | exact sel0 | apply selS )); (iterate 3 exact rfl); exact nle rfl) | (apply es_append hT; (iterate 10 exact rfl); (repeat (first | exact sel0 | apply selS )); exact Reads.own mem0 rfl (List.all_eq_true.1 rfl); exact nle rfl; exact nle rfl; intro A' c') | (apply es_load; (iterate 5 exact rfl); first | (apply ld_blk hT; exact rfl; exact rfl; (repeat (first | exact mcs )); exact rfl; exact rfl) | (apply ld_all hT; exact rfl; exact rfl; (repeat (first | exact mcs | apply mcm )); exact rfl)) | (apply es_alloc hT; (iterate 5 exact rfl); intro _) | (apply aw_condT; iterate 2 exact rfl) | (apply aw_condF; iterate 2 exact rfl))
    all_goals (apply ret1c; exact rfl; (apply ld_all hT; exact rfl; exact rfl; (repeat (first | exact mcs)); exact rfl); exact ⟨_, by show DropTo _ (.own (some ⟨g10, 0, none⟩) 2 2 79 7 ((wayB 3).flatMap BondR.enc) :: .own A' 7 c' 82 3 ((wayP 3).flatMap PartyR.enc) :: h); (repeat (first | exact dt_end | (apply dt_cons; · (repeat (first | exact sel0 | apply selS ))) | apply dt_skip)), _, _, _, _, rfl, rfl⟩)
theorem desk_NewW (W : World) (h : List Chunk) (w : Int) (hw4 : w = 0 ∨ w = 1 ∨ w = 2 ∨ w = 3) (A1 A2 : Option Addr) (c1 c2 : Nat) (m1 : Chunk.own A1 (wayB w).length c1 79 7 ((wayB w).flatMap BondR.enc) ∈ h) (m2 : Chunk.own A2 (wayP w).length c2 82 3 ((wayP w).flatMap PartyR.enc) ∈ h) :
    FSpec Tryz.prog W 13 [rulesV A1 (wayB w).length c1 A2 (wayP w).length c2 (wayL w) (wayBt w)] h (fun v h' => ∃ x bks rows, v = ptrV x.d ∧ h' = deskTab x (wayD w) bks rows h ∧ deskFits (wayD w) bks rows) := by
  have hl : (wayB w).length ≤ 1000000 ∧ (wayP w).length ≤ 1000000 := by rcases hw4 with rfl | rfl | rfl | rfl <;> exact ⟨Nat.le_of_ble_eq_true rfl, Nat.le_of_ble_eq_true rfl⟩
  refine (desk_New W h A1 c1 (wayB w) A2 c2 (wayP w) (wayL w) (wayBt w) (Reads.enc BondR.enc_len BondR.enc_one m1 rfl) (Reads.enc PartyR.enc_len PartyR.enc_one m2 rfl) hl.1 hl.2).mono ?_
  rintro v h' (⟨a, _⟩ | ⟨_, b⟩)
  · rw [wayR hw4] at a; cases a
  · exact b
/-! ### what is told first -/
end Go.Proofs.YtakilgkpfjhfdaaGreat

namespace Go.Proofs.YtakilgkpfjhfdaaGreat
open Go Go.Sl
attribute [local irreducible] AW ES EP Ld RetQ
set_option maxRecDepth 100000
structure Act23 where
  kind : Int
  who : Int
  n : Int
  msg : MsgR
def Act23.enc (a : Act23) : List Value := [.int .i64 a.kind, .int .i64 a.who, .int .i64 a.n] ++ a.msg.enc
theorem Act23.enc_len (a : Act23) : a.enc.length = 10 := rfl
def Act23.ok (a : Act23) : Prop := MsgW a.msg
theorem decAct23 (vs : List Value) (h : FitsL [.int .i64, .int .i64, .int .i64, .int .i64, .int .i64, .int .i64, .int .i64, .int .i64, .int .i64, .int .i64] vs) : ∃ x : Act23, Act23.enc x = vs ∧ Act23.ok x := by
  have hlen : vs.length = 10 := h.len
  match vs, hlen, h with
  | [u0, u1, u2, u3, u4, u5, u6, u7, u8, u9], _, h =>
    obtain ⟨a0, h0, w0⟩ := h.1
    obtain ⟨a1, h1, w1⟩ := h.2.1
    obtain ⟨a2, h2, w2⟩ := h.2.2.1
    obtain ⟨a3, h3, w3⟩ := h.2.2.2.1
    obtain ⟨a4, h4, w4⟩ := h.2.2.2.2.1
    obtain ⟨a5, h5, w5⟩ := h.2.2.2.2.2.1
    obtain ⟨a6, h6, w6⟩ := h.2.2.2.2.2.2.1
    obtain ⟨a7, h7, w7⟩ := h.2.2.2.2.2.2.2.1
    obtain ⟨a8, h8, w8⟩ := h.2.2.2.2.2.2.2.2.1
    obtain ⟨a9, h9, w9⟩ := h.2.2.2.2.2.2.2.2.2.1
    exact ⟨⟨a0, a1, a2, ⟨a3, a4, a5, a6, a7, a8, a9⟩⟩, by rw [h0, h1, h2, h3, h4, h5, h6, h7, h8, h9]; rfl, ⟨wfI w4, wfI w5, wfI w6, wfI w7, wfI w8, wfI w9⟩⟩
def ticksD : Nat → Dk → Dk × List OutR
  | 0, s => (s, [])
  | k + 1, s => ((tickD false (ticksD k s).1).1, (ticksD k s).2 ++ (tickD false (ticksD k s).1).2)
def actN (n : Int) : Nat := (min n 40).toNat
def actD (s : Dk) (a : Act23) : Dk × List OutR :=
  if a.kind = 1 then doD false s a.who a.n a.msg else if a.kind = 2 then tickD false s else if a.kind = 3 then goneD false s a.who else ticksD (actN a.n) s
theorem ticks_ok {N : Nat} {s : Dk} (hD : DOK N s) (hO : OwnI s) : ∀ k, DOK (N + k) (ticksD k s).1 ∧ OwnI (ticksD k s).1
  | 0 => ⟨hD, hO⟩
  | k + 1 => by
    obtain ⟨h1, h2⟩ := ticks_ok hD hO k
    exact ⟨h1.tick, h2.tick⟩
theorem tick_outs {N : Nat} {s : Dk} (hD : DOK N s) : (tickD false s).2.length ≤ N := by
  unfold tickD
  refine Nat.le_trans (dueAll_outs _ _) ?_
  dsimp only
  rw [List.length_nil, Nat.zero_add]
  exact Nat.le_trans (List.take_sublist _ _).length_le hD.nd
theorem ticks_outs {N : Nat} {s : Dk} (hD : DOK N s) (hO : OwnI s) : ∀ k, (ticksD k s).2.length ≤ (N + k) * k
  | 0 => Nat.zero_le _
  | k + 1 => by
    have h1 := ticks_outs hD hO k
    have h2 := tick_outs (ticks_ok hD hO k).1
    show ((ticksD k s).2 ++ (tickD false (ticksD k s).1).2).length ≤ _
    rw [List.length_append]
    have h3 : (N + k) * k ≤ (N + (k + 1)) * k := Nat.mul_le_mul_right k (by omega)
    rw [Nat.mul_add, Nat.mul_one]
    omega
theorem act_ok {N : Nat} {s : Dk} (hD : DOK N s) (hO : OwnI s) (a : Act23) : DOK (N + 40) (actD s a).1 ∧ OwnI (actD s a).1 := by
  unfold actD
  split
  · exact ⟨(hD.do' a.who a.n a.msg).ge (by omega), hO.do' hD a.who a.n a.msg⟩
  · split
    · exact ⟨hD.tick.ge (by omega), hO.tick⟩
    · split
      · exact ⟨(hD.gone a.who).ge (by omega), hO.gone a.who⟩
      · obtain ⟨h1, h2⟩ := ticks_ok hD hO (actN a.n)
        exact ⟨h1.ge (by unfold actN; omega), h2⟩
set_option maxHeartbeats 4000000 in
theorem act23 (W : World) (F : List Chunk) (x : DAd) (s : Dk) (bks : List BAd) (rows : List PRow) (N : Nat) (hD : DOK N s) (hO : OwnI s) (hN : N ≤ 9000) (hf : deskFits s bks rows) (a : Act23) (ha : a.ok) :
    FSpec Tryz.prog W 25 [ptrV x.d, .agg a.enc.toArray] (deskTab x s bks rows F) (ActPost x F (actD s a)) := by
  refine FSpec.dropF ?_
  have hDo := fun G => desk_Do W G x s bks rows N hD hO (by omega) hf a.who a.n a.msg ha
  have hTk := fun G => desk_Tick W G x s bks rows N hD (by omega) hf
  have hGn := fun G => desk_Gone W G x s bks rows N hD (by omega) hf a.who
  unfold actD
  by_cases h1 : a.kind = 1
  · rw [if_pos h1]
    generalize doD false s a.who a.n a.msg = r at *
    unfold deskTab
    refine spec_body Tryz.func25 rfl rfl Tryz.results25 Tryz.ntmps25 rfl rfl ?_
    repeat' (first | apply aw_seq | apply aw_region | apply aw_ret | apply aw_block | apply es_nil | apply es_pure hT; iterate 4 exact rfl | apply es_box; (iterate 5 exact rfl); intro g3 | (apply es_load; (iterate 5 exact rfl); (apply ld_blks hT; exact rfl; exact rfl; (repeat (first | exact mcs )); exact rfl; exact nle rfl)) | (apply es_call; (iterate 7 exact rfl); exact (FSpec.perm (hDo _) (by unfold deskTab; (repeat (first | exact List.Perm.refl _ | (apply permC; · (repeat (first | exact sel0 | apply selS ))) | (apply permCA; · (repeat (first | exact pullA0 | apply pullAS ))))))); rintro _ _ ⟨y2, bks2, rows2, A2, c2, rfl, rfl, hf2, ho2⟩) | (apply es_load; (iterate 5 exact rfl); first | (apply ld_blk hT; exact rfl; exact rfl; (repeat (first | exact mcs )); exact rfl; exact rfl) ) | (apply aw_cond; exact rfl; all_goals (intro hb; (try dsimp only at hb); (try simp only [hb]); (first | replace hb := odt hb | replace hb := odf hb ); (try omega))))
    all_goals try omega
    all_goals (apply ret1; exact rfl; exact ⟨.own A2 r.2.length c2 45 8 (r.2.flatMap OutR.enc) :: deskTab (y2.at x.d) r.1 bks2 rows2 F, by (try unfold deskTab; (repeat (first | exact dt_end | (apply dt_cons; · (repeat (first | exact sel0 ))) | (apply dt_consA; · (repeat (first | exact pullA0 ))) | apply dt_skip))), fun w hw => ⟨y2, bks2, rows2, A2, c2, rfl, rfl, hf2, ho2⟩⟩)
  · rw [if_neg h1]
    by_cases h2 : a.kind = 2
    · rw [if_pos h2]
      generalize tickD false s = r at *
      unfold deskTab
      refine spec_body Tryz.func25 rfl rfl Tryz.results25 Tryz.ntmps25 rfl rfl ?_
      repeat' (first | apply aw_seq | apply aw_region | apply aw_ret | apply aw_block | apply es_nil | apply es_pure hT; iterate 4 exact rfl | apply es_box; (iterate 5 exact rfl); intro g3 | (apply es_call; (iterate 7 exact rfl); exact (FSpec.perm (hTk _) (by unfold deskTab; (repeat (first | exact List.Perm.refl _ | (apply permC; · (repeat (first | exact sel0 | apply selS ))) | (apply permCA; · (repeat (first | exact pullA0 | apply pullAS ))))))); rintro _ _ ⟨y2, bks2, rows2, A2, c2, rfl, rfl, hf2, ho2⟩) | (apply es_load; (iterate 5 exact rfl); first | (apply ld_blk hT; exact rfl; exact rfl; (repeat (first | exact mcs )); exact rfl; exact rfl) ) | (apply aw_cond; exact rfl; all_goals (intro hb; (try dsimp only at hb); (try simp only [hb]); (first | replace hb := odt hb | replace hb := odf hb ); (try omega))))
      all_goals try omega
      all_goals (apply ret1; exact rfl; exact ⟨.own A2 r.2.length c2 45 8 (r.2.flatMap OutR.enc) :: deskTab (y2.at x.d) r.1 bks2 rows2 F, by (try unfold deskTab; (repeat (first | exact dt_end | (apply dt_cons; · (repeat (first | exact sel0 ))) | (apply dt_consA; · (repeat (first | exact pullA0 ))) | apply dt_skip))), fun w hw => ⟨y2, bks2, rows2, A2, c2, rfl, rfl, hf2, ho2⟩⟩)
    · rw [if_neg h2]
      by_cases h3 : a.kind = 3
      · rw [if_pos h3]
        generalize goneD false s a.who = r at *
        unfold deskTab
        refine spec_body Tryz.func25 rfl rfl Tryz.results25 Tryz.ntmps25 rfl rfl ?_
        repeat' (first | apply aw_seq | apply aw_region | apply aw_ret | apply aw_block | apply es_nil | apply es_pure hT; iterate 4 exact rfl | apply es_box; (iterate 5 exact rfl); intro g3 | (apply es_call; (iterate 7 exact rfl); exact (FSpec.perm (hGn _) (by unfold deskTab; (repeat (first | exact List.Perm.refl _ | (apply permC; · (repeat (first | exact sel0 | apply selS ))) | (apply permCA; · (repeat (first | exact pullA0 | apply pullAS ))))))); rintro _ _ ⟨y2, bks2, rows2, A2, c2, rfl, rfl, hf2, ho2⟩) | (apply es_load; (iterate 5 exact rfl); first | (apply ld_blk hT; exact rfl; exact rfl; (repeat (first | exact mcs )); exact rfl; exact rfl) ) | (apply aw_cond; exact rfl; all_goals (intro hb; (try dsimp only at hb); (try simp only [hb]); (first | replace hb := odt hb | replace hb := odf hb ); (try omega))))
        all_goals try omega
        all_goals (apply ret1; exact rfl; exact ⟨.own A2 r.2.length c2 45 8 (r.2.flatMap OutR.enc) :: deskTab (y2.at x.d) r.1 bks2 rows2 F, by (try unfold deskTab; (repeat (first | exact dt_end | (apply dt_cons; · (repeat (first | exact sel0 ))) | (apply dt_consA; · (repeat (first | exact pullA0 ))) | apply dt_skip))), fun w hw => ⟨y2, bks2, rows2, A2, c2, rfl, rfl, hf2, ho2⟩⟩)
      · rw [if_neg h3]
        refine spec_body Tryz.func25 rfl rfl Tryz.results25 Tryz.ntmps25 rfl rfl ?_
        refine aw_conv (fun w hw => ⟨_, hw.own_nil 45 8, ?_⟩)
        repeat' (first | apply aw_seq | apply aw_region | apply aw_skip | apply aw_block | apply es_nil | apply es_pure hT; iterate 4 exact rfl | apply es_box; (iterate 5 exact rfl); intro g3 | (apply es_load; (iterate 5 exact rfl); first | (apply ld_blk hT; exact rfl; exact rfl; (repeat (first | exact mcs )); exact rfl; exact rfl) ) | (apply aw_cond; exact rfl; all_goals (intro hb; (try dsimp only at hb); (try simp only [hb]); (first | replace hb := odt hb | replace hb := odf hb ); (try omega))))
        all_goals try omega
        all_goals
          refine aw_loopD (α := Nat × Sp × DAd × List BAd × List PRow) (E := fun z => [(0, ptrV x.d), (3, .pointer (some ⟨g3, 0, none⟩)), (5, z.2.1.sl (ticksD z.1 s).2.length), (6, .int .i64 z.1)])
            (H := fun z => .blk g3 63 a.enc :: z.2.1.own (ticksD z.1 s).2.length 45 8 ((ticksD z.1 s).2.flatMap OutR.enc) :: deskTab (z.2.2.1.at x.d) (ticksD z.1 s).1 z.2.2.2.1 z.2.2.2.2 F) (μ := fun z => actN a.n - z.1)
            (S := fun z => z.1 ≤ actN a.n ∧ deskFits (ticksD z.1 s).1 z.2.2.2.1 z.2.2.2.2) (0, ⟨none, 0⟩, x, bks, rows) ⟨Nat.zero_le _, hf⟩ ⟨rfl, rfl, rfl, rfl, trivial⟩ ?_ ?_
          · show DropTo _ (.blk g3 63 a.enc :: .own none 0 0 45 8 [] :: deskTab x s bks rows F)
            unfold deskTab
            (repeat (first | exact dt_end))
          · rintro ⟨k, o2, y, bks2, rows2⟩ ⟨hk, hf2⟩
            dsimp only at hk hf2 ⊢
            obtain ⟨hDk, hOk⟩ := ticks_ok hD hO k
            have hk40 : actN a.n ≤ 40 := by unfold actN; omega
            have hol := ticks_outs hD hO k
            have hol2 : (ticksD k s).2.length ≤ 400000 := by
              refine Nat.le_trans hol ?_
              refine Nat.le_trans (Nat.mul_le_mul (show N + k ≤ 9040 by omega) (show k ≤ 40 by omega)) ?_
              decide
            have hto := tick_outs hDk
            by_cases hlt : k < actN a.n
            · have hkn : (k : Int) < a.n ∧ (k : Int) < 40 := by unfold actN at hlt; omega
              have hTk2 := fun G => desk_Tick W G (y.at x.d) (ticksD k s).1 bks2 rows2 (N + k) hDk (by omega) hf2
              have e1 : (ticksD (k + 1) s).1 = (tickD false (ticksD k s).1).1 := rfl
              have e2 : (ticksD (k + 1) s).2 = (ticksD k s).2 ++ (tickD false (ticksD k s).1).2 := rfl
              generalize tickD false (ticksD k s).1 = r at *
              generalize hn1 : (ticksD (k + 1) s).1 = s1 at *
              generalize hn2 : (ticksD (k + 1) s).2 = t1 at *
              generalize (ticksD k s).1 = s0 at *
              generalize (ticksD k s).2 = t0 at *
              subst e1
              subst e2
              unfold deskTab
              repeat' (first | apply aw_seq | apply aw_region | apply aw_skip | apply aw_block | apply es_nil | apply es_pure hT; iterate 4 exact rfl | (apply es_i64 hT; (iterate 4 exact rfl); (iterate 2 (first | omega ))) | (apply es_call; (iterate 7 exact rfl); exact (FSpec.perm (hTk2 _) (by unfold deskTab; (repeat (first | exact List.Perm.refl _ | (apply permC; · (repeat (first | exact sel0 | apply selS ))) | (apply permCA; · (repeat (first | exact pullA0 | apply pullAS ))))))); rintro _ _ ⟨y3, bks3, rows3, A3, c3, rfl, rfl, hf3, ho3⟩) | (apply es_append hT; (iterate 10 exact rfl); (repeat (first | exact sel0 | apply selS | apply selApp)); exact ho3.reads mem0; omega; (show (_ : Nat) * 64 ≤ _; omega); intro A' c') | (apply es_load; (iterate 5 exact rfl); first | (apply ld_blk hT; exact rfl; exact rfl; (repeat (first | exact mcs )); exact rfl; exact rfl) ) | (apply es_case; exact rfl; all_goals (intro hb; (fail_if_success (change true = true at hb)); (fail_if_success (change false = false at hb)); (try dsimp only at hb); (try simp only [hb]); (first | replace hb := odt hb | replace hb := odf hb ); (try omega))) | (apply aw_cond; exact rfl; all_goals (intro hb; (try dsimp only at hb); (try simp only [hb]); (first | replace hb := odt hb | replace hb := odf hb ); (try omega))))
              all_goals try omega
              all_goals
                refine loopq_end (k + 1, ⟨A', c'⟩, y3, bks3, rows3) (by (try dsimp only); omega) ⟨by (try dsimp only); omega, by dsimp only; rw [hn1]; exact hf3⟩ ⟨rfl, rfl, by dsimp only; rw [hn2]; show _ = some (Value.slice A' (t0 ++ r.2).length c'); rw [List.length_append]; rfl, rfl, trivial⟩ ?_
                dsimp only
                rw [hn1, hn2]
                rw [show (t0 ++ r.2).length = t0.length + r.2.length from List.length_append, show (t0 ++ r.2).flatMap OutR.enc = t0.flatMap OutR.enc ++ r.2.flatMap OutR.enc from List.flatMap_append]
                try unfold deskTab
                (repeat (first | exact dt_end | (apply dt_cons; · (repeat (first | exact sel0 | apply selS | apply selApp))) | (apply dt_consA; · (repeat (first | exact pullA0 | apply pullAS ))) | apply dt_skip))
            · have hkn : ¬ ((k : Int) < a.n ∧ (k : Int) < 40) := by unfold actN at hlt hk; omega
              obtain rfl : k = actN a.n := by omega
              generalize hr : ticksD (actN a.n) s = r at *
              unfold deskTab
              repeat' (first | apply aw_seq | apply aw_region | apply aw_ret | apply aw_exit | apply es_nil | apply es_pure hT; iterate 4 exact rfl | apply es_skip; iterate 3 exact rfl | (apply es_load; (iterate 5 exact rfl); first | (apply ld_blk hT; exact rfl; exact rfl; (repeat (first | exact mcs )); exact rfl; exact rfl) ) | apply aw_condF; iterate 2 exact rfl | (apply es_case; exact rfl; all_goals (intro hb; (fail_if_success (change true = true at hb)); (fail_if_success (change false = false at hb)); (try dsimp only at hb); (try simp only [hb]); (first | replace hb := odt hb | replace hb := odf hb ); (try omega))) | (apply aw_cond; exact rfl; all_goals (intro hb; (try dsimp only at hb); (try simp only [hb]); (first | replace hb := odt hb | replace hb := odf hb ); (try omega))))
              all_goals try omega
              all_goals (apply ret1; exact rfl; exact ⟨.own o2.A r.2.length o2.c 45 8 (r.2.flatMap OutR.enc) :: deskTab (y.at x.d) r.1 bks2 rows2 F, by (try unfold deskTab; (repeat (first | exact dt_end | (apply dt_cons; · (repeat (first | exact sel0 | apply selS ))) | (apply dt_consA; · (repeat (first | exact pullA0 | apply pullAS ))) | apply dt_skip))), fun w hw => ⟨y, bks2, rows2, _, _, rfl, rfl, hf2, hw.ownF mem0⟩⟩)
end Go.Proofs.YtakilgkpfjhfdaaGreat

namespace Go.Sl
open Go Go.RowKit
def eqFsT (f : TypeId → Value → Value → Option Bool) (T : Tab) (xs ys : List Value) : List Field → Option Bool
  | [] => some true
  | g :: fs => if g.name = "_" then none else
    match partV T g.type xs g.offset, partV T g.type ys g.offset with
    | some u, some v => match f g.type u v, eqFsT f T xs ys fs with
      | some a, some b => some (a && b)
      | _, _ => none
    | _, _ => none
def eqItT (f : Value → Value → Option Bool) (T : Tab) (e : TypeId) (c : Nat) (xs ys : List Value) : List Nat → Option Bool
  | [] => some true
  | i :: is => match partV T e xs (i * c), partV T e ys (i * c) with
    | some u, some v => match f u v, eqItT f T e c xs ys is with
      | some a, some b => some (a && b)
      | _, _ => none
    | _, _ => none
def eqT (T : Tab) (hd : List TypeId) : Nat → TypeId → Value → Value → Option Bool
  | 0, _, _, _ => none
  | n + 1, t, x, y => match T.lookup t with
    | some ⟨.int _, _, _, _⟩ => (match x, y with
      | .int k a, .int k' b => if k = k' then some (a == b) else none
      | _, _ => none)
    | some ⟨.bool, _, _, _⟩ => (match x, y with
      | .bool a, .bool b => some (a == b)
      | _, _ => none)
    | some ⟨.struct fs, _, _, _⟩ => (match x, y with
      | .agg xs, .agg ys => if hd.contains t then eqFsT (eqT T hd n) T xs.toList ys.toList fs.toList else none
      | _, _ => none)
    | some ⟨.array len e, _, _, _⟩ => (match x, y with
      | .agg xs, .agg ys => (match T.lookup e with
        | some te => eqItT (eqT T hd n e) T e te.size xs.toList ys.toList (List.range len)
        | none => none)
      | _, _ => none)
    | _ => none
section
variable {P : Program} {W : World} {T : Tab} {N : Nat} {env : Env} {h : List Chunk} {kf : KF} {ops : Array Oper} {K : Env → List Chunk → Prop} {rest : List Oper}
theorem eqFsT_run (hT : TabOK P T) {f : TypeId → Value → Value → Option Bool} {m : Nat} (hf : ∀ t x y b, f t x y = some b → ∀ w, (Op.equalIn m t x y).run P w = .ok b w) {xs ys : Array Value} :
    ∀ {fs : List Field} {b : Bool}, eqFsT f T xs.toList ys.toList fs = some b → ∀ w : World, (Op.eqFields m xs ys fs).run P w = .ok b w
  | [], b, he, w => by simp [eqFsT] at he; simp [Op.eqFields, he]
  | g :: fs, b, he, w => by
    unfold eqFsT at he
    split at he
    · cases he
    · rename_i hn
      split at he
      · rename_i u v hu hv
        split at he
        · rename_i a1 b1 h1 h2
          injection he with he
          subst he
          have h3 := hf _ _ _ _ h1 w
          have ih := eqFsT_run hT hf h2 w
          have p1 := part_run hT hu w
          have p2 := part_run hT hv w
          unfold Op.eqFields
          rw [if_pos hn]
          simp only [Sem.run_bind, p1, p2, Result.andThen_ok, h3]
          cases a1
          · simp
          · simp [ih]
        · cases he
      · cases he
theorem eqItT_run (hT : TabOK P T) {f : Value → Value → Option Bool} {m c : Nat} {e : TypeId} (hf : ∀ x y b, f x y = some b → ∀ w, (Op.equalIn m e x y).run P w = .ok b w) {xs ys : Array Value} :
    ∀ {is : List Nat} {b : Bool}, eqItT f T e c xs.toList ys.toList is = some b → ∀ w : World, (Op.eqItems m e c xs ys is).run P w = .ok b w
  | [], b, he, w => by simp [eqItT] at he; simp [Op.eqItems, he]
  | i :: is, b, he, w => by
    unfold eqItT at he
    split at he
    · rename_i u v hu hv
      split at he
      · rename_i a1 b1 h1 h2
        injection he with he
        subst he
        have h3 := hf _ _ _ h1 w
        have ih := eqItT_run hT hf h2 w
        have p1 := part_run hT hu w
        have p2 := part_run hT hv w
        unfold Op.eqItems
        simp only [Sem.run_bind, p1, p2, Result.andThen_ok, h3]
        cases a1
        · simp
        · simp [ih]
      · cases he
    · cases he
theorem eqT_run (hT : TabOK P T) {hd : List TypeId} (hs : ∀ t ∈ hd, P.stoodInHeld t = false) : ∀ (n : Nat) (t : TypeId) (x y : Value) (b : Bool), eqT T hd n t x y = some b → ∀ (d : Nat) (w : World), (Op.equalIn (d + n) t x y).run P w = .ok b w
  | 0, t, x, y, b, he, d, w => by simp [eqT] at he
  | n + 1, t, x, y, b, he, d, w => by
    unfold eqT at he
    split at he
    · rename_i k s bb z hl
      have g := (hT _ _ hl).und
      split at he
      · split at he
        · rename_i hk
          injection he with he
          subst he hk
          rw [show d + (n + 1) = (d + n) + 1 by omega, Op.equalIn]
          simp only [Sem.run_bind, g, Result.andThen_ok, if_true, Sem.run_pure]
        · cases he
      · cases he
    · rename_i s bb z hl
      have g := (hT _ _ hl).und
      split at he
      · injection he with he
        subst he
        rw [show d + (n + 1) = (d + n) + 1 by omega, Op.equalIn]
        simp only [Sem.run_bind, g, Result.andThen_ok, Sem.run_pure]
      · cases he
    · rename_i fs s bb z hl
      split at he
      · rename_i xs ys
        split at he
        · rename_i hc
          have hu : P.underlying t = some (.struct fs) := (hT _ _ hl).1
          have hf : P.fieldsOf t = fs := by simp [Program.fieldsOf, hu]
          rw [show d + (n + 1) = (d + n) + 1 by omega, run_equalIn_struct w (d + n) t xs ys (by rw [hf]; exact hu) (hs t (by simpa using hc)), hf]
          exact eqFsT_run hT (fun t x y b h w => eqT_run hT hs n t x y b h d w) he w
        · cases he
      · cases he
    · rename_i len e s bb z hl
      split at he
      · rename_i xs ys
        split at he
        · rename_i te hte
          have hu : P.underlying t = some (.array len e) := (hT _ _ hl).1
          obtain ⟨_, i, hi, h1, _⟩ := hT _ _ hte
          have hc : P.cellsOf e = te.size := by simp [Program.cellsOf, hi, h1]
          rw [show d + (n + 1) = (d + n) + 1 by omega, run_equalIn_array w (d + n) xs ys hu hi, hc]
          exact eqItT_run hT (fun x y b h w => eqT_run hT hs n e x y b h d w) he w
        · cases he
      · cases he
    · cases he
theorem es_eqT (hT : TabOK P T) {b r : Bool} {n : Nat} {hd : List TypeId} {d : Tmp} {t yt : TypeId} {x y : Operand} {xs ys : Array Value} {ty pos af g} (hg : evalG ops env g = some b) (hb : b = true) (hd' : Nat.blt d N = true) (hx : evalE env x = some (.agg xs)) (hy : evalE env y = some (.agg ys)) (he : eqT T hd n t (.agg xs) (.agg ys) = some r) (hn : n ≤ 10000) (hs : ∀ t ∈ hd, P.stoodInHeld t = false) (hm : P.eqGuardType P.depth t = false)
    (hK : ES P W N kf ops rest ((d, .bool r) :: env) h K) : ES P W N kf ops (⟨some d, .binOp .eql t x y yt, ty, pos, af, g⟩ :: rest) env h K :=
  es_run hg hb hd' (fun a ha w => by
    have h1 := eqT_run hT hs n t _ _ r he (10000 - n) w
    rw [show 10000 - n + n = 10000 by omega] at h1
    simp only [execOp, ha.eval hx, ha.eval hy, Sem.run_bind, run_eqGuard_agg w .eql t x y xs ys hm, Result.andThen_ok, run_eql_struct, h1, Sem.run_pure]) hK
end
end Go.Sl

namespace Go.Proofs.YtakilgkpfjhfdaaGreat
open Go Go.Sl
attribute [local irreducible] AW ES EP Ld RetQ
set_option maxRecDepth 100000
theorem do_outs {N : Nat} {s : Dk} (hD : DOK N s) {who seq : Int} {m : MsgR} : (doD false s who seq m).2.length ≤ 1000001 := by
  have h := does_outs hD (who := who) (m := m)
  unfold doD
  dsimp only
  split
  · show 1 ≤ _; omega
  · rw [List.length_cons]; omega
def sto1 (s : Dk) : Dk × List OutR := doD false s 0 1 (msgOf 9 [0, 1, 10, 12, 20])
def sto2 (s : Dk) : Dk × List OutR := doD false (sto1 s).1 2 1 (msgOf 10 [1, 100, 10])
def sto3 (s : Dk) : Dk × List OutR := doD false (sto2 s).1 3 1 (msgOf 10 [1, 105, 10])
def sto4 (s : Dk) : Dk × List OutR := doD false (sto3 s).1 0 2 (msgOf 12 [1])
def storyD (s : Dk) : Dk × List OutR := ((sto4 s).1, (sto1 s).2 ++ (sto2 s).2 ++ (sto3 s).2 ++ (sto4 s).2)
theorem story_ok {N : Nat} {s : Dk} (hD : DOK N s) (hO : OwnI s) : DOK (N + 4) (storyD s).1 ∧ OwnI (storyD s).1 := by
  have h1 := hD.do' (rf := false) 0 1 (msgOf 9 [0, 1, 10, 12, 20])
  have o1 := hO.do' (rf := false) hD 0 1 (msgOf 9 [0, 1, 10, 12, 20])
  have h2 := h1.do' (rf := false) 2 1 (msgOf 10 [1, 100, 10])
  have o2 := o1.do' (rf := false) h1 2 1 (msgOf 10 [1, 100, 10])
  have h3 := h2.do' (rf := false) 3 1 (msgOf 10 [1, 105, 10])
  have o3 := o2.do' (rf := false) h2 3 1 (msgOf 10 [1, 105, 10])
  exact ⟨h3.do' (rf := false) 0 2 (msgOf 12 [1]), o3.do' (rf := false) h3 0 2 (msgOf 12 [1])⟩
theorem ofL (W : World) (h : List Chunk) (g : Nat) (n : Nat) (kind : Int) (ns : List Int) (hm : Chunk.own (some ⟨g, 0, none⟩) n n 2 1 (ns.map (Value.int .i64)) ∈ h) (hn : ns.length = n) (hl : n ≤ 6) :
    QSpec Tryz.prog W 12 [.int .i64 kind, .slice (some ⟨g, 0, none⟩) n n] h (.agg (msgOf kind ns).enc.toArray) := by
  subst hn
  exact ref5_Of W h (some ⟨g, 0, none⟩) ns.length kind ns (Reads.ints hm rfl) hl
set_option maxHeartbeats 8000000 in
theorem story23 (W : World) (F : List Chunk) (x : DAd) (s : Dk) (bks : List BAd) (rows : List PRow) (N : Nat) (hD : DOK N s) (hO : OwnI s) (hN : N ≤ 9000) (hf : deskFits s bks rows) :
    FSpec Tryz.prog W 18 [ptrV x.d] (deskTab x s bks rows F) (ActPost x F (storyD s)) := by
  refine FSpec.dropF ?_
  have h1 := hD.do' (rf := false) 0 1 (msgOf 9 [0, 1, 10, 12, 20])
  have o1 := hO.do' (rf := false) hD 0 1 (msgOf 9 [0, 1, 10, 12, 20])
  have h2 := h1.do' (rf := false) 2 1 (msgOf 10 [1, 100, 10])
  have o2 := o1.do' (rf := false) h1 2 1 (msgOf 10 [1, 100, 10])
  have h3 := h2.do' (rf := false) 3 1 (msgOf 10 [1, 105, 10])
  have o3 := o2.do' (rf := false) h2 3 1 (msgOf 10 [1, 105, 10])
  have l1 := do_outs hD (who := 0) (seq := 1) (m := msgOf 9 [0, 1, 10, 12, 20])
  have l2 := do_outs h1 (who := 2) (seq := 1) (m := msgOf 10 [1, 100, 10])
  have l3 := do_outs h2 (who := 3) (seq := 1) (m := msgOf 10 [1, 105, 10])
  have l4 := do_outs h3 (who := 0) (seq := 2) (m := msgOf 12 [1])
  have w1 : MsgW (msgOf 9 [0, 1, 10, 12, 20]) := by unfold MsgW inW msgOf; decide
  have w2 : MsgW (msgOf 10 [1, 100, 10]) := by unfold MsgW inW msgOf; decide
  have w3 : MsgW (msgOf 10 [1, 105, 10]) := by unfold MsgW inW msgOf; decide
  have w4 : MsgW (msgOf 12 [1]) := by unfold MsgW inW msgOf; decide
  have d1 := fun G => desk_Do W G x s bks rows N hD hO (by omega) hf 0 1 _ w1
  have d2 := fun G (y : DAd) b r f => desk_Do W G (y.at x.d) _ b r (N + 1) h1 o1 (by omega) f 2 1 _ w2
  have d3 := fun G (y : DAd) b r f => desk_Do W G (y.at x.d) _ b r (N + 1 + 1) h2 o2 (by omega) f 3 1 _ w3
  have d4 := fun G (y : DAd) b r f => desk_Do W G (y.at x.d) _ b r (N + 1 + 1 + 1) h3 o3 (by omega) f 0 2 _ w4
  clear h1 o1 h2 o2 h3 o3 w1 w2 w3 w4
  unfold storyD sto4 sto3 sto2 sto1
  generalize doD false s 0 1 (msgOf 9 [0, 1, 10, 12, 20]) = r1 at *
  generalize doD false r1.1 2 1 (msgOf 10 [1, 100, 10]) = r2 at *
  generalize doD false r2.1 3 1 (msgOf 10 [1, 105, 10]) = r3 at *
  generalize doD false r3.1 0 2 (msgOf 12 [1]) = r4 at *
  refine spec_body Tryz.func18 rfl rfl Tryz.results18 Tryz.ntmps18 rfl rfl ?_
  repeat' (first | apply aw_seq | apply aw_region | apply aw_ret | apply es_nil | apply es_pure hT; iterate 4 exact rfl | apply es_buildSlice (cs := [.int .i64 0, .int .i64 1, .int .i64 10, .int .i64 12, .int .i64 20]) hT; (iterate 12 exact rfl); intro g6 | apply es_buildSlice (cs := [.int .i64 1, .int .i64 100, .int .i64 10]) hT; (iterate 12 exact rfl); intro g12 | apply es_buildSlice (cs := [.int .i64 1, .int .i64 105, .int .i64 10]) hT; (iterate 12 exact rfl); intro g18 | apply es_buildSlice (cs := [.int .i64 1]) hT; (iterate 12 exact rfl); intro g24 | ((fail_if_success (have q := y1)); apply es_callQ; (iterate 7 exact rfl); exact (ofL W _ g6 5 9 [0, 1, 10, 12, 20] (by (repeat (first | exact mcs | apply mcm ))) rfl (Nat.le_of_ble_eq_true rfl))) | ((fail_if_success (have q := y2)); apply es_callQ; (iterate 7 exact rfl); exact (ofL W _ g12 3 10 [1, 100, 10] (by (repeat (first | exact mcs | apply mcm ))) rfl (Nat.le_of_ble_eq_true rfl))) | ((fail_if_success (have q := y3)); apply es_callQ; (iterate 7 exact rfl); exact (ofL W _ g18 3 10 [1, 105, 10] (by (repeat (first | exact mcs | apply mcm ))) rfl (Nat.le_of_ble_eq_true rfl))) | ((fail_if_success (have q := y4)); apply es_callQ; (iterate 7 exact rfl); exact (ofL W _ g24 1 12 [1] (by (repeat (first | exact mcs | apply mcm ))) rfl (Nat.le_of_ble_eq_true rfl))) | ((fail_if_success (have q := y1)); apply es_call; (iterate 7 exact rfl); exact (FSpec.perm (d1 _) (by unfold deskTab; (repeat (first | exact List.Perm.refl _ | (apply permC; · (repeat (first | exact sel0 | apply selS ))) | (apply permCA; · (repeat (first | exact pullA0 | apply pullAS ))))))); rintro _ _ ⟨y1, b1, q1, A1, c1, rfl, rfl, f1, v1⟩) | ((fail_if_success (have q := y2)); apply es_call; (iterate 7 exact rfl); exact (FSpec.perm (d2 _ y1 b1 q1 f1) (by unfold deskTab; (repeat (first | exact List.Perm.refl _ | (apply permC; · (repeat (first | exact sel0 | apply selS ))) | (apply permCA; · (repeat (first | exact pullA0 | apply pullAS ))))))); rintro _ _ ⟨y2, b2, q2, A2, c2, rfl, rfl, f2, v2⟩) | ((fail_if_success (have q := y3)); apply es_call; (iterate 7 exact rfl); exact (FSpec.perm (d3 _ y2 b2 q2 f2) (by unfold deskTab; (repeat (first | exact List.Perm.refl _ | (apply permC; · (repeat (first | exact sel0 | apply selS ))) | (apply permCA; · (repeat (first | exact pullA0 | apply pullAS ))))))); rintro _ _ ⟨y3, b3, q3, A3, c3, rfl, rfl, f3, v3⟩) | ((fail_if_success (have q := y4)); apply es_call; (iterate 7 exact rfl); exact (FSpec.perm (d4 _ y3 b3 q3 f3) (by unfold deskTab; (repeat (first | exact List.Perm.refl _ | (apply permC; · (repeat (first | exact sel0 | apply selS ))) | (apply permCA; · (repeat (first | exact pullA0 | apply pullAS ))))))); rintro _ _ ⟨y4, b4, q4, A4, c4, rfl, rfl, f4, v4⟩) | apply es_append0 hT; (iterate 10 exact rfl); exact v1.reads mem0; omega; (show (_ : Nat) * 64 ≤ _; omega); intro B1 e1 | (apply es_append hT; (iterate 10 exact rfl); (repeat (first | exact sel0 | apply selS | apply selApp)); (first | exact v2.reads mem0 | exact v3.reads mem0 | exact v4.reads mem0); omega; (show (_ : Nat) * 64 ≤ _; omega); first | (fail_if_success (have q := B2)); intro B2 e2 | (fail_if_success (have q := B3)); intro B3 e3 | intro B4 e4))
  all_goals try omega
  all_goals
    have hl : (r1.2 ++ r2.2 ++ r3.2 ++ r4.2).length = r1.2.length + r2.2.length + r3.2.length + r4.2.length := by simp only [List.length_append]
    have hfm : (r1.2 ++ r2.2 ++ r3.2 ++ r4.2).flatMap OutR.enc = r1.2.flatMap OutR.enc ++ r2.2.flatMap OutR.enc ++ r3.2.flatMap OutR.enc ++ r4.2.flatMap OutR.enc := by simp only [List.flatMap_append]
    apply ret1
    exact rfl
    refine ⟨.own B4 (r1.2.length + r2.2.length + r3.2.length + r4.2.length) e4 45 8 (r1.2.flatMap OutR.enc ++ r2.2.flatMap OutR.enc ++ r3.2.flatMap OutR.enc ++ r4.2.flatMap OutR.enc) :: deskTab (y4.at x.d) r4.1 b4 q4 F, by (try unfold deskTab); (repeat (first | exact dt_end | (apply dt_cons; · (repeat (first | exact sel0 | apply selS ))) | (apply dt_consA; · (repeat (first | exact pullA0 | apply pullAS ))) | apply dt_skip)), fun w hw => ⟨y4, b4, q4, B4, e4, by dsimp only; rw [hl], by dsimp only; rw [hl, hfm], f4, by dsimp only; rw [hl, hfm]; exact hw.ownF mem0⟩⟩
end Go.Proofs.YtakilgkpfjhfdaaGreat

namespace Go.Proofs.YtakilgkpfjhfdaaGreat
open Go Go.Sl
attribute [local irreducible] AW ES EP Ld RetQ
set_option maxRecDepth 100000
def kO : List OutR := [outM 2 18 [2, 1], outM 0 26 [1, 100], outM 0 28 [1, 1, 0, 100, 10, 2], outM 2 28 [1, 2, 0, 100, 10, 0]]
def kT : TradeR := ⟨1, 0, 0, 2, 100, 10, 1, 0⟩
theorem kn : (doD false (storyD (wayD 0)).1 2 2 (msgOf 14 [1])).2 = kO ∧ (doD false (storyD (wayD 0)).1 2 2 (msgOf 14 [1])).1.trades = [kT] := by decide +kernel
theorem sOKTr : structOK Tryz.prog 103 := ⟨by kernel_rfl, by kernel_rfl⟩
theorem wayD_ok {w : Int} (hw : w = 0 ∨ w = 1 ∨ w = 2 ∨ w = 3) : DOK 0 (wayD w) ∧ OwnI (wayD w) := ⟨DOK.new (wayR hw), OwnI.new⟩
theorem desk_TradesF (W : World) (h : List Chunk) (x : DAd) (s : Dk) (m0 : Chunk.blk x.d 95 (deskCs x s) ∈ h) (m1 : Chunk.blk x.b 138 [x.trades.sl s.trades.length, .int .u64 s.head] ∈ h) (m2 : x.trades.own s.trades.length 103 8 (s.trades.flatMap TradeR.enc) ∈ h) (hb : s.trades.length ≤ 1000000) :
    FSpec Tryz.prog W 24 [ptrV x.d] h (fun v h' => ∃ A' c', v = .slice A' s.trades.length c' ∧ h' = .own A' s.trades.length c' 103 8 (s.trades.flatMap TradeR.enc) :: h ∧ OwnF A' s.trades.length c' 8 (s.trades.flatMap TradeR.enc)) :=
  (desk_Trades W h x s m0 m1 m2 hb).conv (by
    rintro v h' ⟨A, c, rfl, rfl⟩ w hw
    exact ⟨_, hw, A, c, rfl, rfl, hw.ownF mem0⟩)
set_option maxHeartbeats 4000000 in
theorem known23 (W : World) (h : List Chunk) : FSpec Tryz.prog W 17 [] h (fun v h' => v = .bool true ∧ h' = h) := by
  refine FSpec.dropTo ?_
  obtain ⟨hD, hO⟩ := wayD_ok (w := 0) (.inl rfl)
  obtain ⟨hD2, hO2⟩ := story_ok hD hO
  have hb0 : bitI .and .i64 0 3 = 0 := by decide +kernel
  have w4 : MsgW (msgOf 14 [1]) := by unfold MsgW inW msgOf; decide
  have dSt := fun G (x : DAd) b q f => story23 W G x (wayD 0) b q 0 hD hO (by omega) f
  have dDo := fun G (x : DAd) b q f => desk_Do W G x (storyD (wayD 0)).1 b q (0 + 4) hD2 hO2 (by omega) f 2 2 _ w4
  obtain ⟨k1, k2⟩ := kn
  clear hD2 hO2 hD hO w4
  generalize hr5 : doD false (storyD (wayD 0)).1 2 2 (msgOf 14 [1]) = r5 at *
  rcases r5 with ⟨s5, o5⟩
  dsimp only at k1 k2
  clear hr5
  have h4 : o5.length = 4 := by rw [k1]; rfl
  have hx0 : o5[(0 : Int).toNat]? = some (outM 2 18 [2, 1]) := by rw [k1]; rfl
  have hx1 : o5[(1 : Int).toNat]? = some (outM 0 26 [1, 100]) := by rw [k1]; rfl
  clear k1
  have dTr := fun h (x : DAd) m0 m1 m2 => (desk_TradesF W h x s5 m0 m1 m2 (by rw [k2]; exact nle rfl)).mono (R' := fun v h' => ∃ A' c', v = .slice A' 1 c' ∧ h' = .own A' 1 c' 103 8 ([kT].flatMap TradeR.enc) :: h ∧ OwnF A' 1 c' 8 ([kT].flatMap TradeR.enc)) (by
    rintro v h' ⟨A, c, rfl, rfl, hf⟩
    rw [k2] at hf ⊢
    exact ⟨A, c, rfl, rfl, hf⟩)
  generalize storyD (wayD 0) = r4 at *
  refine spec_body Tryz.func17 rfl rfl Tryz.results17 Tryz.ntmps17 rfl rfl ?_
  repeat' (first | apply aw_seq | apply aw_region | apply es_nil | apply es_pure hT; iterate 4 exact rfl | apply es_call; (iterate 7 exact rfl); exact (rules_w W _ 0 0 hb0 (.inl rfl)); rintro _ _ ⟨A1, c1, A2, c2, rfl, rfl⟩ | (apply es_call; (iterate 7 exact rfl); exact (desk_NewW W _ 0 (.inl rfl) A1 A2 c1 c2 (by (repeat (first | exact mcs | apply mcm ))) (by (repeat (first | exact mcs | apply mcm )))); rintro _ _ ⟨x, b0, q0, rfl, rfl, f0⟩) | apply es_call; (iterate 7 exact rfl); exact (dSt _ x b0 q0 f0); rintro _ _ ⟨y1, b1, q1, B1, e1, rfl, rfl, f1, v1⟩ | apply es_buildSlice (cs := [.int .i64 1]) hT; (iterate 12 exact rfl); intro g9 | (apply es_callQ; (iterate 7 exact rfl); exact (ofL W _ g9 1 14 [1] (by (repeat (first | exact mcs | apply mcm ))) rfl (Nat.le_of_ble_eq_true rfl))) | (apply es_call; (iterate 7 exact rfl); exact (FSpec.perm (dDo _ (y1.at x.d) b1 q1 f1) (by (try unfold deskTab); (repeat (first | exact List.Perm.refl _ | (apply permC; · (repeat (first | exact sel0 | apply selS ))) | (apply permCA; · (repeat (first | exact pullA0 | apply pullAS ))))))); rintro _ _ ⟨y2, b2, q2, B2, e2, rfl, rfl, f2, v2⟩) | (apply es_call; (iterate 7 exact rfl); exact (dTr _ (y2.at x.d) (by (repeat (first | exact mcs | apply mcm ))) (by (repeat (first | exact mcs | apply mcm ))) (by (repeat (first | exact mcs | apply mcm )))); rintro _ _ ⟨B3, e3, rfl, rfl, hf3⟩) | (apply es_case; exact rfl; all_goals (intro hb; (fail_if_success (change true = true at hb)); (fail_if_success (change false = false at hb)); (try dsimp only at hb); (try simp only [hb]); (first | replace hb := odt hb | replace hb := odf hb ); (try omega))))
  all_goals try omega
  all_goals
    dsimp only at v2 ⊢
    have hBA : B2.isSome = true := v2.some_ (by omega)
    have hCA : B3.isSome = true := hf3.some_ (by omega)
    have hy2 : [kT][(0 : Int).toNat]? = some kT := rfl
    repeat' (first | apply aw_ret | apply es_nil | apply es_pure hT; iterate 4 exact rfl | (apply es_idx hT; (iterate 8 exact rfl); (iterate 2 omega); first | exact hBA | exact hCA) | (apply es_load; (iterate 5 exact rfl); first | exact ld_fld hT rfl rfl (v2.reads (by (repeat (first | exact mcs | apply mcm )))) OutR.enc_len (by rw [adr_add, adr_add]; rfl) hx0 (f := 1) (by decide) rfl | exact ld_fld hT rfl rfl (v2.reads (by (repeat (first | exact mcs | apply mcm )))) OutR.enc_len (by rw [adr_add, adr_add]; rfl) hx1 (f := 1) (by decide) rfl | exact ld_elem hT rfl rfl (hf3.reads (by (repeat (first | exact mcs )))) TradeR.enc_len rfl hy2 rfl) | apply es_buildS hT (cs := TradeR.enc kT); iterate 4 exact rfl | (apply es_eqT (n := 2) (hd := [103]) (r := true) hT; (iterate 5 exact rfl); exact rfl; decide; exact (fun t ht => by rw [List.mem_singleton.1 ht]; exact sOKTr.1); exact sOKTr.2))
    all_goals try omega
    all_goals first
      | (apply ret1; exact rfl; exact ⟨h, by (try unfold deskTab); (repeat (first | exact dt_end | apply dt_skip | apply dt_app)), rfl, rfl⟩)
      | skip
end Go.Proofs.YtakilgkpfjhfdaaGreat

namespace Go.Proofs.YtakilgkpfjhfdaaGreat
open Go Go.Sl
attribute [local irreducible] AW ES EP Ld RetQ
set_option maxRecDepth 100000
def runD (s : Dk) (l : List Act23) : Dk := l.foldl (fun s a => (actD s a).1) s
theorem runD_step {s : Dk} {l : List Act23} {k : Nat} {a : Act23} (h : l[k]? = some a) : runD s (l.take (k + 1)) = (actD (runD s (l.take k)) a).1 := by
  unfold runD
  rw [List.take_add_one, h, List.foldl_append]; rfl
theorem runD_ok : ∀ (l : List Act23) {N : Nat} {s : Dk}, DOK N s → OwnI s → DOK (N + 40 * l.length) (runD s l) ∧ OwnI (runD s l)
  | [], N, s, hD, hO => ⟨hD, hO⟩
  | a :: l, N, s, hD, hO => by
    obtain ⟨h1, h2⟩ := act_ok hD hO a
    have := runD_ok l h1 h2
    rw [List.length_cons, show N + 40 * (l.length + 1) = N + 40 + 40 * l.length by omega]
    exact this
theorem desk_AsksF (W : World) (h : List Chunk) (x : DAd) (s : Dk) (m0 : Chunk.blk x.d 95 (deskCs x s) ∈ h) (m1 : Chunk.blk x.a 131 [x.asks.sl s.asks.length] ∈ h) (m2 : x.asks.own s.asks.length 68 10 (s.asks.flatMap AskR.enc) ∈ h) (hb : s.asks.length ≤ 1000000) :
    FSpec Tryz.prog W 26 [ptrV x.d] h (fun v h' => ∃ A' c', v = .slice A' s.asks.length c' ∧ h' = .own A' s.asks.length c' 68 10 (s.asks.flatMap AskR.enc) :: h ∧ OwnF A' s.asks.length c' 10 (s.asks.flatMap AskR.enc)) :=
  (desk_Asks W h x s m0 m1 m2 hb).conv (by
    rintro v h' ⟨A, c, rfl, rfl⟩ w hw
    exact ⟨_, hw, A, c, rfl, rfl, hw.ownF mem0⟩)
end Go.Proofs.YtakilgkpfjhfdaaGreat

namespace Go.Proofs.YtakilgkpfjhfdaaGreat
open Go Go.Sl
attribute [local irreducible] AW ES EP Ld RetQ
set_option maxRecDepth 100000
theorem ticks_end {N : Nat} {s : Dk} (hD : DOK N s) (hO : OwnI s) (hE : EndI s []) : ∀ k, EndI (ticksD k s).1 []
  | 0 => hE
  | k + 1 => (ticks_end hD hO hE k).tick (ticks_ok hD hO k).1
theorem act_end {N : Nat} {s : Dk} (hD : DOK N s) (hO : OwnI s) (hE : EndI s []) (a : Act23) : EndI (actD s a).1 [] := by
  unfold actD
  split
  · exact hE.do' hD a.who a.n a.msg
  · split
    · exact hE.tick hD
    · split
      · exact hE.gone hD a.who
      · exact ticks_end hD hO hE _
theorem runD_end : ∀ (l : List Act23) {N : Nat} {s : Dk}, DOK N s → OwnI s → EndI s [] → EndI (runD s l) []
  | [], N, s, _, _, hE => hE
  | a :: l, N, s, hD, hO, hE => runD_end l (act_ok hD hO a).1 (act_ok hD hO a).2 (act_end hD hO hE a)
theorem does_look {s : Dk} {who : Int} {m : MsgR} : (doesD false s who m).d.look = s.look := by
  have hH : ∀ a q, (hitQ s a q).d.look = s.look := fun a q => by
    unfold hitQ
    repeat' split
    all_goals rfl
  unfold doesD
  split
  · rfl
  split
  · exact comes_rest.2.2.2.1
  split
  · exact changes_rest.2.2.2.1
  split
  · unfold quoteD
    split
    · rfl
    repeat' split
    all_goals first
      | rfl
      | (dsimp only; split <;> rfl)
  split
  · unfold pullD
    repeat' split
    all_goals rfl
  split
  · unfold hitD
    repeat' split
    all_goals first | rfl | exact hH _ _
  split
  · unfold bestD
    repeat' split
    all_goals first | rfl | exact hH _ _
  split
  · unfold looksD
    split
    · rfl
    split
    · rfl
    dsimp only
    split
    · rfl
    split
    · unfold lookEndsD
      dsimp only
      split <;> rfl
    · split
      · rfl
      split <;> rfl
  split
  · unfold dropAskD
    repeat' split
    all_goals rfl
  split
  · unfold askD
    dsimp only
    repeat' split
    all_goals rfl
  · unfold haltD
    repeat' split
    all_goals rfl
theorem dueAll_look : ∀ (xs : List Due) (s : Dk × List OutR), (xs.foldl (dueD false) s).1.look = s.1.look
  | [], s => rfl
  | x :: xs, s => by
    rw [List.foldl_cons, dueAll_look xs]
    unfold dueD
    split
    · rfl
    · split
      · rfl
      · split
        · dsimp only
          unfold lookEndsD
          dsimp only
          split <;> rfl
        · split <;> rfl
theorem tick_look {s : Dk} : (tickD false s).1.look = s.look := by
  unfold tickD
  rw [dueAll_look]
theorem goneQ_look : ∀ (qs : List Quote) (s : Dk), (qs.foldl (goneQ false) s).look = s.look
  | [], s => rfl
  | q :: qs, s => by
    rw [List.foldl_cons, goneQ_look qs]
    unfold goneQ
    split <;> rfl
theorem gone_look {s : Dk} {who : Int} : (goneD false s who).1.look = s.look := by
  unfold goneD
  rw [goneQ_look]
theorem ticks_look {s : Dk} : ∀ k, (ticksD k s).1.look = s.look
  | 0 => rfl
  | k + 1 => tick_look.trans (ticks_look k)
theorem act_look {s : Dk} {a : Act23} : (actD s a).1.look = s.look := by
  unfold actD
  split
  · exact does_look
  · split
    · exact tick_look
    · split
      · exact gone_look
      · exact ticks_look _
theorem runD_look : ∀ (l : List Act23) (s : Dk), (runD s l).look = s.look
  | [], s => rfl
  | a :: l, s => (runD_look l (actD s a).1).trans act_look
set_option maxHeartbeats 8000000 in
theorem law_Ends (W : World) (way : Int) (A0 : Option Addr) (c0 : Nat) (ls : List Act23) (hr0 : Reads W [] A0 ls.length 10 (ls.flatMap Act23.enc)) (hok : ∀ a ∈ ls, a.ok) :
    FSpec Tryz.prog W 10 [.int .i64 way, .slice A0 ls.length c0] [] (fun v _ => v = .bool true) := by
  refine FSpec.dropTo ?_
  obtain ⟨w, hw, hw4⟩ := and3 way
  obtain ⟨hD, hO⟩ := wayD_ok hw4
  have hE0 : EndI (wayD w) [] := EndI.new
  have hlk : wayL w = 1 ∨ wayL w = 3 := by unfold wayL; split <;> omega
  by_cases hl : ls.length > 120
  · skip
    refine spec_body Tryz.func10 rfl rfl Tryz.results10 Tryz.ntmps10 rfl rfl ?_
    repeat' (first | apply aw_seq | apply aw_region | apply aw_ret | apply es_nil | apply es_pure hT; iterate 4 exact rfl | (apply aw_cond; exact rfl; all_goals (intro hb; (try dsimp only at hb); (try simp only [hb]); (first | replace hb := odt hb | replace hb := odf hb ); (try omega))))
    all_goals try omega
    all_goals (apply ret1; exact rfl; exact ⟨_, dt_all, rfl⟩)
  · skip
    refine spec_body Tryz.func10 rfl rfl Tryz.results10 Tryz.ntmps10 rfl rfl ?_
    repeat' (first | apply aw_seq | apply aw_region | apply aw_skip | apply aw_block | apply es_nil | apply es_pure hT; iterate 4 exact rfl | apply es_call; (iterate 7 exact rfl); exact (rules_w W _ way w hw hw4); rintro _ _ ⟨A1, c1, A2, c2, rfl, rfl⟩ | (apply es_alloc hT; (iterate 5 exact rfl); first | (fail_if_success (have q := g5)); intro g5) | (apply es_store hT; (iterate 6 exact rfl); (repeat (first | exact sel0 )); (iterate 3 exact rfl); exact nle rfl) | (apply es_call; (iterate 7 exact rfl); exact (desk_NewW W _ w hw4 A1 A2 c1 c2 (by (repeat (first | exact mcs | apply mcm ))) (by (repeat (first | exact mcs | apply mcm )))); rintro _ _ ⟨x, b0, q0, rfl, rfl, f0⟩) | (apply es_load; (iterate 5 exact rfl); first | (apply ld_all hT; exact rfl; exact rfl; (repeat (first | exact mcs )); exact rfl)) | (apply aw_cond; exact rfl; all_goals (intro hb; (try dsimp only at hb); (try simp only [hb]); (first | replace hb := odt hb | replace hb := odf hb ); (try omega))))
    all_goals try omega
    all_goals
      refine aw_reads (hr0.mono (by simp)) rfl (fun hAi => ?_)
      refine aw_loopD (α := Nat × DAd × List BAd × List PRow) (E := fun z => [(1, .slice A0 ls.length c0), (5, .pointer (some ⟨g5, 0, none⟩)), (6, ptrV x.d), (7, .int .i64 z.1)])
        (H := fun z => .blk g5 35 [.slice A1 (wayB w).length c1, .slice A2 (wayP w).length c2, .int .i64 (wayL w), .int .i64 (wayBt w)] :: deskTab (z.2.1.at x.d) (runD (wayD w) (ls.take z.1)) z.2.2.1 z.2.2.2 []) (μ := fun z => ls.length - z.1)
        (S := fun z => z.1 ≤ ls.length ∧ deskFits (runD (wayD w) (ls.take z.1)) z.2.2.1 z.2.2.2) (0, x, b0, q0) ⟨Nat.zero_le _, f0⟩ ⟨rfl, rfl, rfl, rfl, trivial⟩ ?_ ?_
      · show DropTo _ (.blk g5 35 [.slice A1 (wayB w).length c1, .slice A2 (wayP w).length c2, .int .i64 (wayL w), .int .i64 (wayBt w)] :: deskTab x (wayD w) b0 q0 [])
        unfold deskTab
        (repeat (first | (apply dt_cons; · (repeat (first | exact sel0 | apply selS | apply selApp))) | (apply dt_consA; · (repeat (first | exact pullA0 )))))
        exact dt_all
      · rintro ⟨k, y, b1, q1⟩ ⟨hk, hf⟩
        dsimp only at hk hf ⊢
        obtain ⟨hDk, hOk⟩ := runD_ok (ls.take k) hD hO
        have hEk := runD_end (ls.take k) hD hO hE0
        have hLk := runD_look (ls.take k) (wayD w)
        rw [List.length_take] at hDk
        by_cases hlt : k < ls.length
        · obtain ⟨a, ha⟩ : ∃ a, ls[k]? = some a := ⟨ls[k]'hlt, List.getElem?_eq_getElem hlt⟩
          have ha2 : ls[(k : Int).toNat]? = some a := by simpa using ha
          have hd1 : decide ((k : Int) < (ls.length : Int)) = true := by simp; omega
          have hst := runD_step (s := wayD w) ha
          have hAc := fun G => act23 W G (y.at x.d) (runD (wayD w) (ls.take k)) b1 q1 _ hDk hOk (by omega) hf a (hok a (List.mem_of_getElem? ha))
          have hE2 := act_end hDk hOk hEk a
          have hL2 := (act_look (s := runD (wayD w) (ls.take k)) (a := a)).trans hLk
          obtain ⟨hD2, hO2⟩ := act_ok hDk hOk a
          generalize runD (wayD w) (ls.take k) = s1 at *
          generalize hs2 : runD (wayD w) (ls.take (k + 1)) = s2 at *
          generalize actD s1 a = r at *
          have hla : r.1.asks.length ≤ 1000000 := by have := hD2.na; omega
          have hAs1 := fun h (y : DAd) m0 m1 m2 => desk_AsksF W h (y.at x.d) r.1 m0 m1 m2 hla
          have hNw := fun (y : DAd) => desk_Now W (y.at x.d) r.1
          have hnw := hD2.now
          have hA := hAi (by omega)
          unfold deskTab
          repeat' (first | apply aw_seq | apply aw_region | apply aw_skip | apply aw_block | apply es_nil | apply es_pure hT; iterate 4 exact rfl | apply es_idx hT; (iterate 8 exact rfl); (iterate 2 omega); exact hA | (apply es_load; (iterate 5 exact rfl); exact ld_elem hT rfl rfl (hr0.mono (by simp)) Act23.enc_len rfl ha2 rfl) | (apply es_call; (iterate 7 exact rfl); exact (FSpec.perm (hAc _) (by (try unfold deskTab); (repeat (first | exact List.Perm.refl _ | (apply permC; · (repeat (first | exact sel0 | apply selS ))) | (apply permCA; · (repeat (first | exact pullA0 | apply pullAS ))))))); rintro _ _ ⟨y2, b2, q2, A5, c5, rfl, rfl, hf2, ho2⟩) | (apply es_call; (iterate 7 exact rfl); exact (hAs1 _ y2 (by (try unfold deskTab); (repeat (first | exact mcs | apply mcm ))) (by (try unfold deskTab); (repeat (first | exact mcs | apply mcm ))) (by (try unfold deskTab); (repeat (first | exact mcs | apply mcm )))); rintro _ _ ⟨B1, e1, rfl, rfl, v1⟩) | (apply aw_cond; exact rfl; all_goals (intro hb; (try dsimp only at hb); (try simp only [hb]); (first | replace hb := odt hb | replace hb := odf hb ); (try omega))))
          all_goals try omega
          all_goals
            refine aw_reads (v1.reads mem0) rfl (fun hBi => ?_)
            refine aw_loopD (α := Nat) (E := fun j => [(1, .slice A0 ls.length c0), (5, .pointer (some ⟨g5, 0, none⟩)), (6, ptrV x.d), (7, .int .i64 k), (8, .slice B1 r.1.asks.length e1), (9, .int .i64 j)])
              (H := fun j => .own B1 r.1.asks.length e1 68 10 (r.1.asks.flatMap AskR.enc) :: .blk g5 35 [.slice A1 (wayB w).length c1, .slice A2 (wayP w).length c2, .int .i64 (wayL w), .int .i64 (wayBt w)] :: deskTab (y2.at x.d) r.1 b2 q2 []) (μ := fun j => r.1.asks.length - j)
              (S := fun j => j ≤ r.1.asks.length) 0 (Nat.zero_le _) ⟨rfl, rfl, rfl, rfl, rfl, rfl, trivial⟩ ?_ ?_
            · (try unfold deskTab)
              (repeat (first | exact dt_end | (apply dt_cons; · (repeat (first | exact sel0 | apply selS | apply selApp))) | (apply dt_consA; · (repeat (first | exact pullA0 | apply pullAS ))) | apply dt_skip))
            · intro j hj
              by_cases hj2 : j < r.1.asks.length
              · obtain ⟨b, hb⟩ : ∃ b, r.1.asks[j]? = some b := ⟨r.1.asks[j]'hj2, List.getElem?_eq_getElem hj2⟩
                have hb2 : r.1.asks[(j : Int).toNat]? = some b := by simpa using hb
                have hjc : decide ((j : Int) < (r.1.asks.length : Int)) = true := by simp; omega
                have hbm := List.mem_of_getElem? hb
                have hsaid : b.ends ≤ r.1.now - wayL w → b.state = 3 ∨ b.state = 4 := fun h => hE2.said hbm (by rw [hL2]; exact h) (by rw [hL2]; show 0 ≤ wayL w; omega)
                have hBA := hBi (by omega)
                unfold deskTab
                repeat' (first | apply aw_seq | apply aw_region | apply aw_skip | apply aw_block | apply es_nil | apply es_pure hT; iterate 4 exact rfl | apply es_skip; iterate 3 exact rfl | (apply es_i64 hT; (iterate 4 exact rfl); (iterate 2 (first | omega ))) | apply aw_draw [27] [] hmix; decide +kernel | apply es_idx hT; (iterate 8 exact rfl); (iterate 2 omega); exact hBA | (apply es_load; (iterate 5 exact rfl); first | exact ld_fld hT rfl rfl (v1.reads (by (repeat (first | exact mcs )))) AskR.enc_len (adr_add _ _ _) hb2 (f := 6) (by decide) rfl | exact ld_fld hT rfl rfl (v1.reads (by (repeat (first | exact mcs )))) AskR.enc_len (adr_add _ _ _) hb2 (f := 8) (by decide) rfl) | (apply es_callQ; (iterate 7 exact rfl); exact ((hNw y2).mono (mem1P (by (repeat (first | exact mcs | apply mcm )))))) | (apply es_load; (iterate 5 exact rfl); first | (apply ld_blk hT; exact rfl; exact rfl; (repeat (first | exact mcs | apply mcm )); exact rfl; exact rfl) ) | apply aw_condF; iterate 2 exact rfl | (apply es_case; exact rfl; all_goals (intro hb; (fail_if_success (change true = true at hb)); (fail_if_success (change false = false at hb)); (try dsimp only at hb); (try simp only [hb]); (first | replace hb := odt hb | replace hb := odf hb | replace hb := bne_t hb | replace hb := bne_f hb ); (try omega))) | (apply aw_cond; exact rfl; all_goals (intro hb; (try dsimp only at hb); (try simp only [hb]); (first | replace hb := odt hb | replace hb := odf hb | replace hb := bne_t hb | replace hb := bne_f hb ); (try omega))))
                all_goals try omega
                all_goals first
                  | exact loopq_end (j + 1) (by (try dsimp only); omega) (by (try dsimp only); omega) ⟨rfl, rfl, rfl, rfl, rfl, rfl, trivial⟩ (by (try unfold deskTab); (repeat (first | exact dt_end)))
                  | skip
              · obtain rfl : j = r.1.asks.length := by omega
                have hjc : decide ((r.1.asks.length : Int) < (r.1.asks.length : Int)) = false := by simp
                unfold deskTab
                repeat' (first | apply aw_seq | apply aw_region | apply aw_exit | apply es_nil | apply es_pure hT; iterate 4 exact rfl | (apply es_i64 hT; (iterate 4 exact rfl); (iterate 2 (first | omega ))) | (apply aw_cond; exact rfl; all_goals (intro hb; (try dsimp only at hb); (try simp only [hb]); (first | replace hb := odt hb | replace hb := odf hb ); (try omega))))
                all_goals try omega
                all_goals first
                  | exact loopq_end (k + 1, y2, b2, q2) (by (try dsimp only); omega) ⟨by (try dsimp only); omega, by dsimp only; rw [hs2, hst]; exact hf2⟩ ⟨rfl, rfl, rfl, rfl, trivial⟩ (by dsimp only; rw [hs2, hst]; (try unfold deskTab); (repeat (first | exact dt_end | (apply dt_cons; · (repeat (first | exact sel0 | apply selS ))) | (apply dt_consA; · (repeat (first | exact pullA0 | apply pullAS ))) | apply dt_skip)))
                  | skip
        · obtain rfl : k = ls.length := by omega
          have hd1 : decide ((ls.length : Int) < (ls.length : Int)) = false := by simp
          unfold deskTab
          repeat' (first | apply aw_seq | apply aw_region | apply aw_ret | apply aw_exit | apply es_nil | apply es_pure hT; iterate 4 exact rfl | apply es_call; (iterate 7 exact rfl); exact (known23 W _); rintro _ _ ⟨rfl, rfl⟩ | (apply aw_cond; exact rfl; all_goals (intro hb; (try dsimp only at hb); (try simp only [hb]); (first | replace hb := odt hb | replace hb := odf hb ); (try omega))))
          all_goals try omega
          all_goals first
            | (apply ret1; exact rfl; exact ⟨_, dt_all, rfl⟩)
            | skip
end Go.Proofs.YtakilgkpfjhfdaaGreat

namespace Go.Proofs.YtakilgkpfjhfdaaGreat
namespace deskEnds
open Go Go.Sl Go.ChangeShapes Go.WideShapes Go.ChangeAt Go.RowKit
theorem own : ownKnob Tryz.prog.godebug = none := by kernel_rfl
theorem laidOut : laidOutB Tryz.prog = true := by kernel_rfl
set_option maxRecDepth 100000 in
theorem lifted (os : Os) (started : os.Started) (H : Type) (enc : TypeId × Value → H) :
    ReturnsInHanded {} Tryz.checked os 10 .any (Rows.deskEndsSpec.pre6 enc Tryz.prog Tryz.f10 Rows.deskEndsRow.domain false) (Rows.deskEndsSpec.post enc Tryz.prog Tryz.f10 false true false false) := by
  refine returnsInHanded_of_change (C := Tryz.checked) own started (by kernel_rfl) Tryz.func10
    (ChangeSpec.witness6 (enc := enc) (C := Tryz.checked) false ⟨#[], #[.int .i64 0, .slice none 0 0], []⟩ 8 (by kernel_rfl) (by kernel_rfl) (by kernel_rfl) (by kernel_rfl)) ?_
  intro W base args ds gs before hval0 hW hcnd _
  have hval : ∀ (j : Nat) t v, Tryz.f10.params[j]? = some t → args[j]? = some v → Value.okWide Tryz.prog W .any base t v := hval0
  have hW' := hW
  obtain ⟨p, q, hA0, hV, rfl, hfz, hnd⟩ := hW
  have hA : DataW.TrodAll enc Tryz.prog W 0 (fun _ => true) true Tryz.f10.params.toList args.toList ds p := hA0
  obtain ⟨rfl, rfl⟩ := trodVars_none hV
  simp only [List.append_nil] at hW'
  have hA1 := hA
  rw [Tryz.params10] at hA1 hval
  obtain ⟨v0, vs0, d0, ds0, p0, q0, hargs, rfl, rfl, h0, r0⟩ := trodAll_cons hA1
  obtain ⟨v1, vs1, d1, ds1, p1, q1, rfl, rfl, rfl, h1, r1⟩ := trodAll_cons r0
  obtain ⟨rfl, rfl, rfl⟩ := trodAll_nil r1
  obtain rfl : args = #[v0, v1] := by cases args; simp_all
  obtain ⟨a0, rfl, _, _, w0⟩ := open_int Tryz.underlying3 (hval 0 3 v0 rfl rfl) h0
  obtain ⟨A1, c1, l1, rfl, hc1, ok1, hr1⟩ := open_rows (W := W) 8 Tryz.underlying60 (by kernel_rfl) (by kernel_rfl) decAct23 (hval 1 60 v1 rfl rfl) h1
  refine (FSpec.row (law_Ends W a0 A1 c1 l1 hr1 ok1) (fun _ _ h => h)).mono fun e W' ⟨he, hb⟩ => ?_
  subst he
  exact ⟨_, rfl, law_post hW' hA laidOut (by kernel_rfl) rfl rfl Tryz.underlying4 rfl rfl rfl hb⟩
theorem named : Tryz.prog.funcNamed Rows.deskEndsRow.func = some 10 := by kernel_rfl
set_option maxRecDepth 100000 in
set_option maxHeartbeats 8000000 in
theorem closed : joinedFacts Tryz.prog 10 Tryz.f10 Rows.deskEndsSpec Rows.deskEndsRow = true := by
  unfold joinedFacts
  simp only [Bool.and_eq_true]
  repeat' apply And.intro
  all_goals decide +kernel
theorem inst : Tryz.f10.isInstance Tryz.prog Rows.deskEndsRow.origin Rows.deskEndsRow.targs := odt (by kernel_rfl)
theorem over : Rows.deskEndsRow.holds Tryz.pinned (OpenSpec.ofChange Rows.deskEndsSpec) :=
  OpenClaim.holds_of_wide 10 Tryz.f10 rfl rfl rfl rfl rfl rfl rfl ⟨rfl, rfl, rfl, rfl, rfl⟩ rfl rfl rfl rfl rfl named Tryz.func10 closed
    inst (by unfold Func.isWrapper; first | (rw [if_pos (by decide +kernel)]; kernel_rfl) | (rw [if_neg (by decide +kernel)]; exact ⟨rfl, rfl⟩))
    (fun os started H enc _ => lifted os started H enc)
end deskEnds
theorem deskEnds_holds : Rows.DeskEndsSaid := deskEnds.over
#print axioms deskEnds_holds
end Go.Proofs.YtakilgkpfjhfdaaGreat

