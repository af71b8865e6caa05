/- The statement's walk, and what it stands on, joined into few texts: part 6. Conditions stand in each statement. -/
import Derived.Test.YtakilgkpfjhfdaaGreatBndL5
set_option linter.all false
namespace Go.Proofs.YtakilgkpfjhfdaaGreat
open Go Go.Sl
attribute [local irreducible] AW ES EP Ld RetQ
set_option maxRecDepth 100000
theorem meets_outs {N : Nat} {s : Dk} (hD : DOK N s) {who : Int} {n : Nat} {o : Order} {how : Int} : (meetsD s who n o how).outs.length ≤ 400 := by
  unfold meetsD
  dsimp only
  split
  · exact Nat.zero_le _
  · have h1 := doV_lens' (how := how) (o := { o with seq := s.seq + 1 }) (hD.bookB n)
    have h2 := fills_outs (who := who) (o := o) (n := n) (doV how { o with seq := s.seq + 1 } (bookAt s n)).fills ⟨{ s with seq := s.seq + 1, books := s.books.set n (doV how { o with seq := s.seq + 1 } (bookAt s n)).bk }, (doV how { o with seq := s.seq + 1 } (bookAt s n)).gones.map fun g => outM who 21 [g.id, g.left], o.left⟩
    dsimp only at h2
    rw [List.length_map] at h2
    split
    · rw [List.length_append, h2]; show _ + 1 ≤ _; omega
    · rw [h2]; omega
theorem does_outs {N : Nat} {s : Dk} (hD : DOK N s) {who : Int} {m : MsgR} : (doesD false s who m).outs.length ≤ 1000000 := by
  have hH : ∀ a q, (hitQ s a q).outs.length ≤ 1000000 := fun a q => by
    unfold hitQ
    repeat' split
    all_goals (first | exact Nat.zero_le _ | show 1 ≤ _; omega)
  have h8 := hD.few
  unfold doesD
  split
  · exact Nat.zero_le _
  split
  · unfold comesD
    dsimp only
    split
    · exact Nat.zero_le _
    split
    · exact Nat.zero_le _
    split
    · exact Nat.zero_le _
    have := meets_outs hD (who := who) (n := m.f0.toNat) (o := ⟨s.order + 1, 0, who, m.f1, m.f2, m.f3⟩) (how := m.f4)
    split
    · dsimp only; omega
    · omega
  split
  · unfold changesD
    dsimp only
    split
    · exact Nat.zero_le _
    split
    · exact Nat.zero_le _
    split
    · exact Nat.zero_le _
    split
    · split
      · exact Nat.zero_le _
      split
      · exact Nat.zero_le _
      · rename_i o _ _ _ _ _
        have := meets_outs (hD.setDrop (findB s.books m.f0).toNat o.id) (who := who) (n := (findB s.books m.f0).toNat) (o := { o with price := m.f1, left := m.f2 }) (how := 0)
        dsimp only
        omega
    · show 1 ≤ _; omega
  split
  · unfold quoteD
    split
    · exact Nat.zero_le _
    repeat' split
    all_goals first
      | exact Nat.zero_le _
      | (dsimp only; split <;> first | exact Nat.zero_le _ | show 1 ≤ _; omega)
  split
  · unfold pullD
    repeat' split
    all_goals exact Nat.zero_le _
  split
  · unfold hitD
    repeat' split
    all_goals first | exact Nat.zero_le _ | exact hH _ _
  split
  · unfold bestD
    repeat' split
    all_goals first | exact Nat.zero_le _ | exact hH _ _
  split
  · unfold looksD
    split
    · exact Nat.zero_le _
    split
    · exact Nat.zero_le _
    dsimp only
    split
    · exact Nat.zero_le _
    split
    · unfold lookEndsD
      dsimp only
      split <;> (show 1 ≤ _; omega)
    · split
      · exact Nat.zero_le _
      split
      · exact Nat.zero_le _
      · show 3 ≤ _; omega
  split
  · unfold dropAskD
    repeat' split
    all_goals (first | exact Nat.zero_le _ | show 1 ≤ _; omega)
  split
  · unfold askD
    dsimp only
    repeat' split
    all_goals first
      | exact Nat.zero_le _
      | (refine Nat.le_trans (List.length_filterMap_le _ _) ?_; rw [List.length_range]; omega)
  · unfold haltD
    repeat' split
    all_goals exact Nat.zero_le _
def ActPost (x : DAd) (F : List Chunk) (r : Dk × List OutR) (v : Value) (h' : List Chunk) : Prop :=
  ∃ (y : DAd) (bks : List BAd) (rows : List PRow) (A : Option Addr) (c : Nat), v = .slice A r.2.length c ∧ h' = .own A r.2.length c 45 8 (r.2.flatMap OutR.enc) :: deskTab (y.at x.d) r.1 bks rows F ∧ deskFits r.1 bks rows ∧ OwnF A r.2.length c 8 (r.2.flatMap OutR.enc)
set_option maxHeartbeats 4000000 in
theorem desk_Do (W : World) (F : List Chunk) (x : DAd) (s : Dk) (bks : List BAd) (rows : List PRow) (N : Nat) (hD : DOK N s) (hO : OwnI s) (hN : N ≤ 10000) (hf : deskFits s bks rows) (who seq : Int) (m : MsgR) (hmw : MsgW m) :
    FSpec Tryz.prog W 15 [ptrV x.d, .int .i64 who, .int .i64 seq, .agg m.enc.toArray] (deskTab x s bks rows F) (ActPost x F (doD false s who seq m)) := by
  refine FSpec.dropF ?_
  have hDs := fun G g => desk_does W G x s bks rows N hD hO hN hf g who 0 ⟨none, 0⟩ [] m hmw (Nat.zero_le _)
  have hos : (doesD false s who m).outs.length ≤ 1000000 := does_outs hD
  unfold doD
  generalize doesD false s who m = r at *
  have hOu := fun h A to kind (ns : List Int) (hm : Chunk.own A ns.length ns.length 2 1 (ns.map (Value.int .i64)) ∈ h) (hl : ns.length ≤ 6) => desk_out W h A ns.length to kind ns (Reads.ints hm rfl) hl
  dsimp only
  refine spec_body Tryz.func15 rfl rfl Tryz.results15 Tryz.ntmps15 rfl rfl ?_
  refine aw_conv (fun w hw => ⟨_, hw.own_nil 45 8, ?_⟩)
  unfold deskTab
  by_cases he : r.err ≠ 0
  · rw [if_pos he]
    repeat' (first | apply aw_seq | apply aw_region | apply aw_ret | apply aw_skip | apply es_nil | apply es_pure hT; iterate 4 exact rfl | (apply es_box; (iterate 5 exact rfl); first | (fail_if_success (have q := g7)); intro g7 | intro g15) | (apply es_buildS hT (cs := [.int .i64 who, .int .i64 0, .slice none 0 0]); iterate 4 exact rfl) | (apply es_call; (iterate 7 exact rfl); exact (FSpec.perm (hDs _ g15) (by unfold callTab deskTab; (repeat (first | exact List.Perm.refl _ | (apply permC; · (repeat (first | exact sel0 | apply selS ))) | (apply permCA; · (repeat (first | exact pullA0 | apply pullAS ))))))); rintro _ _ ⟨rfl, y2, o2, bks2, rows2, id2, os2, rfl, hf2, hok2⟩) | (apply es_buildSlice (cs := [.int .i64 seq, .int .i64 r.err]) hT; (iterate 12 exact rfl); intro g25) | (apply es_buildSlice (cs := (outM who 19 [seq, r.err]).enc) hT; (iterate 12 exact rfl); intro g27) | (apply es_callQ; (iterate 7 exact rfl); exact (hOu _ (some ⟨g25, 0, none⟩) who 19 [seq, r.err] (by (repeat (first | exact mcs ))) (Nat.le_of_ble_eq_true rfl))) | (apply es_load; (iterate 5 exact rfl); first | (apply ld_all hT; exact rfl; exact rfl; (repeat (first | exact mcs | apply mcm )); exact rfl)) | (apply aw_condF; iterate 2 exact rfl) | (apply aw_cond; exact rfl; all_goals (intro hb; (try dsimp only at hb); (try simp only [hb]); (first | replace hb := bne_t hb | replace hb := bne_f hb ); (try omega))))
    all_goals try omega
    all_goals (apply ret1; exact rfl; exact ⟨.own (some ⟨g27, 0, none⟩) 1 1 45 8 ([outM who 19 [seq, r.err]].flatMap OutR.enc) :: deskTab (y2.at x.d) r.d bks2 rows2 F, by (unfold callTab deskTab; (repeat (first | exact dt_end | (apply dt_cons; · (repeat (first | exact sel0 | apply selS ))) | (apply dt_consA; · (repeat (first | exact pullA0 | apply pullAS ))) | apply dt_skip))), fun w hw => ⟨y2, bks2, rows2, _, _, rfl, rfl, hf2, hw.ownF mem0⟩⟩)
  · rw [if_neg he]
    have he := Decidable.not_not.1 he
    repeat' (first | apply aw_seq | apply aw_region | apply aw_ret | apply aw_skip | apply es_nil | apply es_pure hT; iterate 4 exact rfl | (apply aw_treeD [40] [] (.step 0 <| .step 1 <| .step 2 <| .step 3 <| .step 4 <| .step 5 <| .step 9 <| .step 10 <| .step 11 <| .step 12 <| .step 6 <| .step 7 <| .step 8 <| .step 13 <| .step 14 <| .nil) hmix; decide +kernel) | apply ep_nil | apply ep_step; exact rfl | (apply es_box; (iterate 5 exact rfl); first | (fail_if_success (have q := g7)); intro g7 | intro g15) | (apply es_buildS hT (cs := [.int .i64 who, .int .i64 0, .slice none 0 0]); iterate 4 exact rfl) | (apply es_call; (iterate 7 exact rfl); exact (FSpec.perm (hDs _ g15) (by unfold callTab deskTab; (repeat (first | exact List.Perm.refl _ | (apply permC; · (repeat (first | exact sel0 | apply selS ))) | (apply permCA; · (repeat (first | exact pullA0 | apply pullAS ))))))); (rintro _ _ ⟨rfl, y2, o2, bks2, rows2, id2, os2, rfl, hf2, hok2⟩; rw [he]; obtain ⟨rfl, rfl⟩ := hok2 he)) | (apply es_buildSlice (cs := [.int .i64 seq, .int .i64 r.id]) hT; (iterate 12 exact rfl); intro g34) | (apply es_buildSlice (cs := (outM who 18 [seq, r.id]).enc) hT; (iterate 12 exact rfl); intro g36) | (apply es_callQ; (iterate 7 exact rfl); exact (hOu _ (some ⟨g34, 0, none⟩) who 18 [seq, r.id] (by (repeat (first | exact mcs ))) (Nat.le_of_ble_eq_true rfl))) | (apply es_append hT; (iterate 10 exact rfl); (repeat (first | exact sel0 )); exact (Reads.enc (l := [] ++ r.outs) OutR.enc_len OutR.enc_one (by (repeat (first | exact mcs | apply mcm ))) rfl); (rw [List.nil_append]; omega); ((show (1 + (([] : List OutR) ++ r.outs).length) * 64 ≤ _); rw [List.nil_append]; omega); intro A' c') | (apply es_load; (iterate 5 exact rfl); first | (apply ld_blk hT; exact rfl; exact rfl; (repeat (first | exact mcs )); exact rfl; exact rfl) | (apply ld_all hT; exact rfl; exact rfl; (repeat (first | exact mcs | apply mcm )); exact rfl)) | (apply aw_condF; iterate 2 exact rfl))
    all_goals try omega
    all_goals
      apply ret1
      exact rfl
      refine ⟨.own A' (1 + ([] ++ r.outs : List OutR).length) c' 45 8 ((outM who 18 [seq, r.id] :: r.outs).flatMap OutR.enc) :: deskTab (y2.at x.d) r.d bks2 rows2 F, by (unfold callTab deskTab; (repeat (first | exact dt_end | (apply dt_cons; · (repeat (first | exact sel0 | apply selS ))) | (apply dt_consA; · (repeat (first | exact pullA0 | apply pullAS ))) | apply dt_skip))), fun w hw => ?_⟩
      have e : 1 + ([] ++ r.outs : List OutR).length = (outM who 18 [seq, r.id] :: r.outs).length := by simp [Nat.add_comm]
      rw [e] at hw ⊢
      exact ⟨y2, bks2, rows2, _, _, rfl, rfl, hf2, hw.ownF mem0⟩
end Go.Proofs.YtakilgkpfjhfdaaGreat

namespace Go.Proofs.YtakilgkpfjhfdaaGreat
open Go Go.Sl
attribute [local irreducible] AW ES EP Ld RetQ
set_option maxRecDepth 100000
theorem DOK.tick0 {N : Nat} {s : Dk} (h : DOK N s) : DOK (N + 1) ({ s with now := s.now + 1, due := s.due.drop (takeN s.due (s.now + 1)) } : Dk) := by
  have h' := h.up
  have hn := h.now
  exact ⟨h'.rules, h'.nbk, h'.bks, h'.bid, h'.order, h'.seq, ⟨by show 0 ≤ s.now + 1; omega, by show s.now + 1 ≤ ((N + 1 : Nat) : Int); omega⟩, h'.quote, h'.ask, h'.nus, h'.us, h'.upq, h'.nq,
    fun q hq => (h'.qs q hq).mono (Int.le_refl _) rfl (by show s.now ≤ s.now + 1; omega), h'.upa, h'.na, fun a ha => (h'.as_ a ha).mono (Int.le_refl _) rfl rfl (by show s.now ≤ s.now + 1; omega),
    h'.row.sub (List.drop_sublist _ _), Nat.le_trans (List.drop_sublist _ _).length_le h'.nd, h'.ncash, h'.cash, h'.npos, h'.pos, h'.nt, h'.head⟩
theorem dueAll_step {xs : List Due} {k : Nat} {d : Due} {s : Dk × List OutR} (h : xs[k]? = some d) : (xs.take (k + 1)).foldl (dueD false) s = dueD false ((xs.take k).foldl (dueD false) s) d := by
  rw [List.take_add_one, h, List.foldl_append]; rfl
theorem dueAll_outs : ∀ (xs : List Due) (s : Dk × List OutR), (xs.foldl (dueD false) s).2.length ≤ s.2.length + xs.length
  | [], s => by simp
  | x :: xs, s => by
    rw [List.foldl_cons]
    have h1 := dueAll_outs xs (dueD false s x)
    have h2 : (dueD false s x).2.length ≤ s.2.length + 1 := by
      unfold dueD
      split
      · dsimp only; omega
      · split
        · omega
        · split
          · dsimp only
            unfold lookEndsD
            dsimp only
            split <;> (rw [List.length_append]; show _ + 1 ≤ _; omega)
          · split
            · dsimp only; rw [List.length_append]; show _ + 1 ≤ _; omega
            · omega
    rw [List.length_cons]; omega
theorem dueOne_books (s : Dk × List OutR) (x : Due) : (dueD false s x).1.books = s.1.books ∧ (dueD false s x).1.pos = s.1.pos := by
  unfold dueD
  split
  · exact ⟨rfl, rfl⟩
  · split
    · exact ⟨rfl, rfl⟩
    · split
      · dsimp only
        unfold lookEndsD
        dsimp only
        split <;> exact ⟨rfl, rfl⟩
      · split <;> exact ⟨rfl, rfl⟩
theorem dueAll_books : ∀ (xs : List Due) (s : Dk × List OutR), (xs.foldl (dueD false) s).1.books = s.1.books ∧ (xs.foldl (dueD false) s).1.pos = s.1.pos
  | [], s => ⟨rfl, rfl⟩
  | x :: xs, s => by
    rw [List.foldl_cons]
    have h1 := dueAll_books xs (dueD false s x)
    have h2 := dueOne_books s x
    exact ⟨h1.1.trans h2.1, h1.2.trans h2.2⟩
set_option maxHeartbeats 8000000 in
theorem desk_Tick (W : World) (F : List Chunk) (x : DAd) (s : Dk) (bks : List BAd) (rows : List PRow) (N : Nat) (hD : DOK N s) (hN : N ≤ 10000) (hf : deskFits s bks rows) :
    FSpec Tryz.prog W 23 [ptrV x.d] (deskTab x s bks rows F) (ActPost x F (tickD false s)) := by
  refine FSpec.dropF ?_
  have hld : s.due.length ≤ 1000000 := by have := hD.nd; omega
  have hnw := hD.now
  have hnd := hD.nd
  have hTk := fun G => due_TakeF W G x.u x.due.A x.due.c s.due (s.now + 1) hld
  have hD0 : DOK (N + 1) ({ s with now := s.now + 1, due := s.due.drop (takeN s.due (s.now + 1)) } : Dk) := hD.tick0
  unfold tickD
  have hxe : (s.due.take (takeN s.due (s.now + 1))).length = takeN s.due (s.now + 1) := by
    rw [List.length_take]
    exact Nat.min_eq_left (List.takeWhile_sublist _).length_le
  have hxl : takeN s.due (s.now + 1) ≤ N := Nat.le_trans (List.takeWhile_sublist _).length_le hnd
  generalize takeN s.due (s.now + 1) = k0 at *
  generalize s.due.take k0 = xs at *
  generalize s.due.drop k0 = ds at *
  subst hxe
  generalize hs0 : (({ s with now := s.now + 1, due := ds } : Dk), ([] : List OutR)) = s0 at *
  have hf0 : deskFits s0.1 bks rows := by rw [← hs0]; exact hf
  have hD0' : DOK (N + 1) s0.1 := by rw [← hs0]; exact hD0
  have ho0 : s0.2 = [] := by rw [← hs0]
  refine spec_body Tryz.func23 rfl rfl Tryz.results23 Tryz.ntmps23 rfl rfl ?_
  refine aw_conv (fun w hw => ⟨_, hw.own_nil 45 8, ?_⟩)
  unfold deskTab
  repeat' (first | apply aw_seq | apply aw_region | apply aw_skip | apply aw_block | apply es_nil | apply es_pure hT; iterate 4 exact rfl | (apply es_i64 hT; (iterate 4 exact rfl); (iterate 2 (first | omega ))) | apply es_box; (iterate 5 exact rfl); intro g11 | apply es_buildS hT (cs := [.int .i64 0, .int .i64 0, .slice none 0 0]); iterate 4 exact rfl | (apply es_store hT; (iterate 6 exact rfl); (repeat (first | exact sel0 | apply selS )); (iterate 3 exact rfl); exact nle rfl) | (apply aw_treeD [] [] (.step 0 <| .step 1 <| .step 2 <| .step 3 <| .step 4 <| .step 5 <| .step 6 <| .step 7 <| .step 10 <| .step 8 <| .step 9 <| .nil) hmix; decide +kernel) | apply ep_nil | apply ep_step; exact rfl | (apply es_call; (iterate 7 exact rfl); exact (FSpec.perm (hTk _) (by (repeat (first | exact List.Perm.refl _ | (apply permC; · (repeat (first | exact sel0 | apply selS ))) )))); rintro _ _ ⟨A1, c1, A2, c2, rfl, rfl, hod⟩) | (apply es_load; (iterate 5 exact rfl); first | (apply ld_blk hT; exact rfl; exact rfl; (repeat (first | exact mcs | apply mcm )); exact rfl; exact rfl) ) | apply aw_condF; iterate 2 exact rfl)
  all_goals try omega
  all_goals
    refine aw_loopD (α := Nat × Sp × DAd) (E := fun z => [(0, ptrV x.d), (3, ptrV g11), (27, .slice A1 xs.length c1), (28, .int .i64 xs.length), (29, .int .i64 z.1)])
      (H := fun z => .own A1 xs.length c1 121 3 (xs.flatMap Due.enc) :: callTab g11 0 0 z.2.1 ((xs.take z.1).foldl (dueD false) s0).2 (deskTab (z.2.2.at x.d) ((xs.take z.1).foldl (dueD false) s0).1 bks rows F)) (μ := fun z => xs.length - z.1)
      (S := fun z => z.1 ≤ xs.length) (0, ⟨none, 0⟩, { x with due := ⟨A2, c2⟩ }) (Nat.zero_le _) ⟨rfl, rfl, rfl, rfl, rfl, trivial⟩ ?_ ?_
    · dsimp only
      show DropTo _ (.own A1 xs.length c1 121 3 (xs.flatMap Due.enc) :: callTab g11 0 0 ⟨none, 0⟩ s0.2 (deskTab (({ x with due := ⟨A2, c2⟩ } : DAd).at x.d) s0.1 bks rows F))
      subst hs0
      unfold callTab deskTab
      (repeat (first | exact dt_end | (apply dt_cons; · (repeat (first | exact sel0 | apply selS )))))
    · rintro ⟨k, o2, y⟩ hkk
      dsimp only at hkk ⊢
      by_cases hlt : k < xs.length
      · obtain ⟨d, hd1⟩ : ∃ d, xs[k]? = some d := ⟨xs[k]'hlt, List.getElem?_eq_getElem hlt⟩
        have hd2 : xs[(k : Int).toNat]? = some d := by simpa using hd1
        have hdc : decide ((k : Int) < (xs.length : Int)) = true := by simp; omega
        have hstp := dueAll_step (s := s0) hd1
        have hDk : DOK (N + 1) ((xs.take k).foldl (dueD false) s0).1 := DOK.dueAll (s := s0) _ hD0'
        have hol := dueAll_outs (xs.take k) s0
        rw [ho0, List.length_take] at hol
        have hbo : ((xs.take k).foldl (dueD false) s0).2.length ≤ 1000000 := by
          have : min k xs.length ≤ N := by omega
          simp only [List.length_nil] at hol
          omega
        generalize (xs.take k).foldl (dueD false) s0 = st at *
        generalize hst2 : (xs.take (k + 1)).foldl (dueD false) s0 = st2 at *
        have hla : st.1.asks.length ≤ 1000000 := by have := hDk.na; omega
        have hlq : st.1.quotes.length ≤ 1000000 := by have := hDk.nq; omega
        have hlu : st.1.due.length ≤ 1000000 := by have := hDk.nd; omega
        have hG := ask_Get W y.a y.asks.A y.asks.c st.1.asks d.id hla hDk.upa
        unfold dueD at hstp
        refine aw_reads (hod.reads mem0) rfl (fun hDi => ?_)
        have hDA := hDi (by omega)
        by_cases h3 : d.kind = 3
        · rw [if_pos h3] at hstp
          have hK := fun G => quo_Kill W G y.q y.quotes.A y.quotes.c st.1.quotes d.id hlq hDk.upq
          rcases hga : getA d.id st.1.asks with _ | a
          all_goals
            rw [hga] at hG
            unfold gotA at hG
            dsimp only at hG
            unfold callTab deskTab
            repeat' (first | apply aw_seq | apply aw_region | apply aw_skip | apply aw_block | apply es_nil | apply es_pure hT; iterate 4 exact rfl | (apply es_i64 hT; (iterate 4 exact rfl); (iterate 2 (first | omega ))) | apply aw_draw [51] [] hmix; decide +kernel | apply es_idx hT; (iterate 8 exact rfl); (iterate 2 omega); exact hDA | (apply es_load; (iterate 5 exact rfl); exact ld_elem hT rfl rfl (hod.reads (by (repeat (first | exact mcs | apply mcm )))) Due.enc_len rfl hd2 rfl) | (apply es_alloc hT; (iterate 5 exact rfl); first | (fail_if_success (have q := g5)); intro g5 | (fail_if_success (have q := g6)); intro g6) | (apply es_store hT; (iterate 6 exact rfl); (repeat (first | exact sel0 )); (iterate 3 exact rfl); exact nle rfl) | (apply es_callQ; (iterate 7 exact rfl); exact (hG.mono (mem2P (by (repeat (first | exact mcs | apply mcm ))) (by (repeat (first | exact mcs | apply mcm )))))) | (apply es_call; (iterate 7 exact rfl); exact (FSpec.perm (hK _) (by (repeat (first | exact List.Perm.refl _ | (apply permC; · (repeat (first | exact sel0 | apply selS ))) )))); rintro _ _ ⟨rfl, rfl⟩) | (apply es_load; (iterate 5 exact rfl); first | (apply ld_blk hT; exact rfl; exact rfl; (repeat (first | exact mcs | apply mcm )); exact rfl; exact rfl) ) | (apply aw_cond; exact rfl; all_goals (intro hb; (try dsimp only at hb); (try simp only [hb]); (first | replace hb := odt hb | replace hb := odf hb ); (try omega))))
            all_goals try omega
            all_goals exact loopq_end (k + 1, o2, y) (by (try dsimp only); omega) (by (try dsimp only); omega) ⟨rfl, rfl, rfl, rfl, rfl, trivial⟩ (by dsimp only; rw [hst2, hstp]; (repeat (first | exact dt_end | (apply dt_cons; · (repeat (first | exact sel0 | apply selS ))) | (apply dt_consA; · (repeat (first | exact pullA0 | apply pullAS ))) | apply dt_skip)))
        · rw [if_neg h3] at hstp
          rcases hga : getA d.id st.1.asks with _ | a
          · rw [hga] at hG hstp
            unfold gotA at hG
            dsimp only at hG hstp
            unfold callTab deskTab
            repeat' (first | apply aw_seq | apply aw_region | apply aw_skip | apply aw_block | apply es_nil | apply es_pure hT; iterate 4 exact rfl | apply es_skip; iterate 3 exact rfl | (apply es_i64 hT; (iterate 4 exact rfl); (iterate 2 (first | omega ))) | apply aw_draw [51] [] hmix; decide +kernel | apply es_idx hT; (iterate 8 exact rfl); (iterate 2 omega); exact hDA | (apply es_load; (iterate 5 exact rfl); exact ld_elem hT rfl rfl (hod.reads (by (repeat (first | exact mcs | apply mcm )))) Due.enc_len rfl hd2 rfl) | (apply es_alloc hT; (iterate 5 exact rfl); first | (fail_if_success (have q := g5)); intro g5 | (fail_if_success (have q := g6)); intro g6) | (apply es_store hT; (iterate 6 exact rfl); (repeat (first | exact sel0 )); (iterate 3 exact rfl); exact nle rfl) | (apply es_callQ; (iterate 7 exact rfl); exact (hG.mono (mem2P (by (repeat (first | exact mcs | apply mcm ))) (by (repeat (first | exact mcs | apply mcm )))))) | (apply es_load; (iterate 5 exact rfl); first | (apply ld_blk hT; exact rfl; exact rfl; (repeat (first | exact mcs | apply mcm )); exact rfl; exact rfl) ) | (apply aw_condF; iterate 2 exact rfl) | (apply es_case; exact rfl; all_goals (intro hb; (fail_if_success (change true = true at hb)); (fail_if_success (change false = false at hb)); (try dsimp only at hb); (try simp only [hb]); (first | replace hb := odt hb | replace hb := odf hb ); (try omega))) | (apply aw_cond; exact rfl; all_goals (intro hb; (try dsimp only at hb); (try simp only [hb]); (first | replace hb := odt hb | replace hb := odf hb ); (try omega))))
            all_goals try omega
            all_goals exact loopq_end (k + 1, o2, y) (by (try dsimp only); omega) (by (try dsimp only); omega) ⟨rfl, rfl, rfl, rfl, rfl, trivial⟩ (by dsimp only; rw [hst2, hstp]; (repeat (first | exact dt_end | (apply dt_cons; · (repeat (first | exact sel0 | apply selS ))) | (apply dt_consA; · (repeat (first | exact pullA0 | apply pullAS ))) | apply dt_skip)))
          · rw [hga] at hG hstp
            unfold gotA at hG
            dsimp only at hG hstp
            by_cases h2 : d.kind = 2 ∧ a.state = 2
            · rw [if_pos h2] at hstp
              have hLE := fun G => desk_lookEnds W G (y.at x.d) st.1 bks rows g11 0 0 o2 st.2 a hDk.upa hDk.upq hla hlq hlu hbo
              generalize lookEndsD false st.1 a = r at *
              obtain ⟨h2a, h2b⟩ := h2
              unfold callTab deskTab
              repeat' (first | apply aw_seq | apply aw_region | apply aw_skip | apply aw_block | apply es_nil | apply es_pure hT; iterate 4 exact rfl | (apply es_i64 hT; (iterate 4 exact rfl); (iterate 2 (first | omega ))) | apply aw_draw [51] [] hmix; decide +kernel | apply es_idx hT; (iterate 8 exact rfl); (iterate 2 omega); exact hDA | (apply es_load; (iterate 5 exact rfl); exact ld_elem hT rfl rfl (hod.reads (by (repeat (first | exact mcs | apply mcm )))) Due.enc_len rfl hd2 rfl) | (apply es_alloc hT; (iterate 5 exact rfl); first | (fail_if_success (have q := g5)); intro g5 | (fail_if_success (have q := g6)); intro g6) | (apply es_store hT; (iterate 6 exact rfl); (repeat (first | exact sel0 )); (iterate 3 exact rfl); exact nle rfl) | (apply es_callQ; (iterate 7 exact rfl); exact (hG.mono (mem2P (by (repeat (first | exact mcs | apply mcm ))) (by (repeat (first | exact mcs | apply mcm )))))) | (apply es_call; (iterate 7 exact rfl); exact (FSpec.perm (hLE _) (by (repeat (first | exact List.Perm.refl _ | (apply permC; · (repeat (first | exact sel0 | apply selS ))) | (apply permCA; · (repeat (first | exact pullA0 | apply pullAS ))))))); rintro _ _ ⟨rfl, y2, o3, rfl⟩) | (apply es_load; (iterate 5 exact rfl); first | (apply ld_blk hT; exact rfl; exact rfl; (repeat (first | exact mcs | apply mcm )); exact rfl; exact rfl) | (apply ld_all hT; exact rfl; exact rfl; (repeat (first | exact mcs )); exact rfl)) | (apply es_case; exact rfl; all_goals (intro hb; (fail_if_success (change true = true at hb)); (fail_if_success (change false = false at hb)); (try dsimp only at hb); (try simp only [hb]); (first | replace hb := odt hb | replace hb := odf hb ); (try omega))) | (apply aw_cond; exact rfl; all_goals (intro hb; (try dsimp only at hb); (try simp only [hb]); (first | replace hb := odt hb | replace hb := odf hb ); (try omega))))
              all_goals try omega
              all_goals exact loopq_end (k + 1, o3, y2) (by (try dsimp only); omega) (by (try dsimp only); omega) ⟨rfl, rfl, rfl, rfl, rfl, trivial⟩ (by dsimp only; rw [hst2, hstp]; (repeat (first | exact dt_end | (apply dt_cons; · (repeat (first | exact sel0 | apply selS | apply selApp))) | (apply dt_consA; · (repeat (first | exact pullA0 ))) | apply dt_skip)))
            · rw [if_neg h2] at hstp
              by_cases h1 : d.kind = 1 ∧ a.state = 1
              · rw [if_pos h1] at hstp
                have hDi := fun G => desk_dies W G (y.at x.d) st.1 bks rows g11 0 0 o2 st.2 a hDk.upa hla hlq hlu hbo
                obtain ⟨h1a, h1b⟩ := h1
                unfold callTab deskTab
                repeat' (first | apply aw_seq | apply aw_region | apply aw_skip | apply aw_block | apply es_nil | apply es_pure hT; iterate 4 exact rfl | apply es_skip; iterate 3 exact rfl | (apply es_i64 hT; (iterate 4 exact rfl); (iterate 2 (first | omega ))) | apply aw_draw [51] [] hmix; decide +kernel | apply es_idx hT; (iterate 8 exact rfl); (iterate 2 omega); exact hDA | (apply es_load; (iterate 5 exact rfl); exact ld_elem hT rfl rfl (hod.reads (by (repeat (first | exact mcs | apply mcm )))) Due.enc_len rfl hd2 rfl) | (apply es_alloc hT; (iterate 5 exact rfl); first | (fail_if_success (have q := g5)); intro g5 | (fail_if_success (have q := g6)); intro g6) | (apply es_store hT; (iterate 6 exact rfl); (repeat (first | exact sel0 )); (iterate 3 exact rfl); exact nle rfl) | (apply es_callQ; (iterate 7 exact rfl); exact (hG.mono (mem2P (by (repeat (first | exact mcs | apply mcm ))) (by (repeat (first | exact mcs | apply mcm )))))) | (apply es_call; (iterate 7 exact rfl); exact (FSpec.perm (hDi _) (by (repeat (first | exact List.Perm.refl _ | (apply permC; · (repeat (first | exact sel0 | apply selS ))) | (apply permCA; · (repeat (first | exact pullA0 | apply pullAS ))))))); rintro _ _ ⟨rfl, y2, o3, rfl⟩) | (apply es_load; (iterate 5 exact rfl); first | (apply ld_blk hT; exact rfl; exact rfl; (repeat (first | exact mcs | apply mcm )); exact rfl; exact rfl) | (apply ld_all hT; exact rfl; exact rfl; (repeat (first | exact mcs )); exact rfl)) | (apply aw_condF; iterate 2 exact rfl) | (apply es_case; exact rfl; all_goals (intro hb; (fail_if_success (change true = true at hb)); (fail_if_success (change false = false at hb)); (try dsimp only at hb); (try simp only [hb]); (first | replace hb := odt hb | replace hb := odf hb ); (try omega))) | (apply aw_cond; exact rfl; all_goals (intro hb; (try dsimp only at hb); (try simp only [hb]); (first | replace hb := odt hb | replace hb := odf hb ); (try omega))))
                all_goals try omega
                all_goals exact loopq_end (k + 1, o3, y2) (by (try dsimp only); omega) (by (try dsimp only); omega) ⟨rfl, rfl, rfl, rfl, rfl, trivial⟩ (by dsimp only; rw [hst2, hstp]; (repeat (first | exact dt_end | (apply dt_cons; · (repeat (first | exact sel0 | apply selS | apply selApp))) | (apply dt_consA; · (repeat (first | exact pullA0 ))) | apply dt_skip)))
              · rw [if_neg h1] at hstp
                unfold callTab deskTab
                repeat' (first | apply aw_seq | apply aw_region | apply aw_skip | apply aw_block | apply es_nil | apply es_pure hT; iterate 4 exact rfl | apply es_skip; iterate 3 exact rfl | (apply es_i64 hT; (iterate 4 exact rfl); (iterate 2 (first | omega ))) | apply aw_draw [51] [] hmix; decide +kernel | apply es_idx hT; (iterate 8 exact rfl); (iterate 2 omega); exact hDA | (apply es_load; (iterate 5 exact rfl); exact ld_elem hT rfl rfl (hod.reads (by (repeat (first | exact mcs | apply mcm )))) Due.enc_len rfl hd2 rfl) | (apply es_alloc hT; (iterate 5 exact rfl); first | (fail_if_success (have q := g5)); intro g5 | (fail_if_success (have q := g6)); intro g6) | (apply es_store hT; (iterate 6 exact rfl); (repeat (first | exact sel0 )); (iterate 3 exact rfl); exact nle rfl) | (apply es_callQ; (iterate 7 exact rfl); exact (hG.mono (mem2P (by (repeat (first | exact mcs | apply mcm ))) (by (repeat (first | exact mcs | apply mcm )))))) | (apply es_load; (iterate 5 exact rfl); first | (apply ld_blk hT; exact rfl; exact rfl; (repeat (first | exact mcs | apply mcm )); exact rfl; exact rfl) ) | (apply aw_condF; iterate 2 exact rfl) | (apply es_case; exact rfl; all_goals (intro hb; (fail_if_success (change true = true at hb)); (fail_if_success (change false = false at hb)); (try dsimp only at hb); (try simp only [hb]); (first | replace hb := odt hb | replace hb := odf hb ); (try omega))) | (apply aw_cond; exact rfl; all_goals (intro hb; (try dsimp only at hb); (try simp only [hb]); (first | replace hb := odt hb | replace hb := odf hb ); (try omega))))
                all_goals try omega
                all_goals exact loopq_end (k + 1, o2, y) (by (try dsimp only); omega) (by (try dsimp only); omega) ⟨rfl, rfl, rfl, rfl, rfl, trivial⟩ (by dsimp only; rw [hst2, hstp]; (repeat (first | exact dt_end | (apply dt_cons; · (repeat (first | exact sel0 | apply selS ))) | (apply dt_consA; · (repeat (first | exact pullA0 | apply pullAS ))) | apply dt_skip)))
      · obtain rfl : k = xs.length := by omega
        have hdc : decide ((xs.length : Int) < (xs.length : Int)) = false := by simp
        rw [List.take_length] at *
        have hfe := dueAll_books xs s0
        generalize xs.foldl (dueD false) s0 = st at *
        have hf2 : deskFits st.1 bks rows := ⟨by rw [hfe.1]; exact hf0.1, by rw [hfe.2]; exact hf0.2⟩
        unfold callTab deskTab
        repeat' (first | apply aw_seq | apply aw_region | apply aw_ret | apply aw_exit | apply es_nil | apply es_pure hT; iterate 4 exact rfl | (apply es_load; (iterate 5 exact rfl); first | (apply ld_blk hT; exact rfl; exact rfl; (repeat (first | exact mcs | apply mcm )); exact rfl; exact rfl) ) | (apply aw_cond; exact rfl; all_goals (intro hb; (try dsimp only at hb); (try simp only [hb]); (first | replace hb := odt hb | replace hb := odf hb ); (try omega))))
        all_goals try omega
        all_goals (apply ret1; exact rfl; exact ⟨.own o2.A st.2.length o2.c 45 8 (st.2.flatMap OutR.enc) :: deskTab (y.at x.d) st.1 bks rows F, by (unfold deskTab; (repeat (first | exact dt_end | (apply dt_cons; · (repeat (first | exact sel0 | apply selS ))) | (apply dt_consA; · (repeat (first | exact pullA0 | apply pullAS ))) | apply dt_skip))), fun w hw => ⟨y, bks, rows, _, _, rfl, rfl, hf2, hw.ownF mem0⟩⟩)
end Go.Proofs.YtakilgkpfjhfdaaGreat

namespace Go.Sl
open Go
section
variable {P : Program} {W : World} {T : Tab} {N : Nat} {env : Env} {h : List Chunk} {kf : KF} {ops : Array Oper} {K : Env → List Chunk → Prop} {rest : List Oper}
theorem es_idxArrG (hT : TabOK P T) {b : Bool} {d : Tmp} {ty pos af g} {t e : TypeId} {ti te : TI} {x ix : Operand} {ad : Addr} {len : Nat} {i : Int} {k : IntKind} (hg : evalG ops env g = some b) (hb : b = true) (hd : Nat.blt d N = true)
    (ht : T.lookup t = some ti) (htd : ti.desc = .array len e) (hte : T.lookup e = some te) (hx : evalE env x = some (.pointer (some ad))) (hi : evalE env ix = some (.int k i)) (h0 : 0 ≤ i) (h1 : i < len)
    (hK : ES P W N kf ops rest ((d, .pointer (some (ad.add (i.toNat * te.size)))) :: env) h K) : ES P W N kf ops (⟨some d, .indexAddr t x ix, ty, pos, af, g⟩ :: rest) env h K :=
  es_run hg hb hd (fun a ha w => by
    have g1 := hT _ _ ht
    have g2 := hT _ _ hte
    have hu := g1.1
    rw [htd] at hu
    simp [execOp, ha.eval hx, ha.eval hi, Instr.indexAt, Instr.sureAddr, asIntOf, run_underlying hu, h0, h1, g2.sz]) hK
end
end Go.Sl

namespace Go.Proofs.YtakilgkpfjhfdaaGreat
open Go Go.Sl
attribute [local irreducible] AW ES EP Ld RetQ
set_option maxRecDepth 100000
/-! ### rules -/
def wayB (w : Int) : List BondR := if w = 1 then [kb2] else if w = 2 then [kb2, kb1] else [kb1, kb2]
def wayP (w : Int) : List PartyR := if w = 3 then kps ++ [⟨1, 12, 0⟩, ⟨2, 0, 0⟩] else kps
def wayL (w : Int) : Int := if w = 1 then 1 else 3
def wayBt (w : Int) : Int := if w = 2 then 4 else 50
def wayD (w : Int) : Dk := newDk (wayB w) (wayP w) (wayL w) (wayBt w)
theorem wayR {w : Int} (hw : w = 0 ∨ w = 1 ∨ w = 2 ∨ w = 3) : isR (wayB w) (wayP w) (wayL w) (wayBt w) = true := by
  rcases hw with rfl | rfl | rfl | rfl <;> decide +kernel
def RulesPost (h : List Chunk) (w : Int) (v : Value) (h' : List Chunk) : Prop :=
  ∃ A1 c1 A2 c2, v = rulesV A1 (wayB w).length c1 A2 (wayP w).length c2 (wayL w) (wayBt w) ∧ h' = .own A1 (wayB w).length c1 79 7 ((wayB w).flatMap BondR.enc) :: .own A2 (wayP w).length c2 82 3 ((wayP w).flatMap PartyR.enc) :: h
set_option maxHeartbeats 4000000 in
theorem rules_w (W : World) (h : List Chunk) (way w : Int) (hw : bitI .and .i64 way 3 = w) (hw4 : w = 0 ∨ w = 1 ∨ w = 2 ∨ w = 3) : FSpec Tryz.prog W 14 [.int .i64 way] h (RulesPost h w) := by
  refine FSpec.dropTo ?_
  refine spec_body Tryz.func14 rfl rfl Tryz.results14 Tryz.ntmps14 rfl rfl ?_
  rcases hw4 with rfl | rfl | rfl | rfl
  · skip
    repeat' (first | apply aw_seq | apply aw_region | apply aw_ret | apply aw_skip | apply aw_block | apply es_nil | apply es_pure hT; iterate 4 exact rfl | apply es_buildS hT (cs := BondR.enc kb1); iterate 4 exact rfl | apply es_buildS hT (cs := BondR.enc kb2); iterate 4 exact rfl | apply es_buildS hT (cs := PartyR.enc ⟨1, 12, 0⟩); iterate 4 exact rfl | apply es_buildS hT (cs := PartyR.enc ⟨1, 4, 0⟩); iterate 4 exact rfl | apply es_buildS hT (cs := PartyR.enc ⟨2, 0, 100000⟩); iterate 4 exact rfl | apply es_buildS hT (cs := PartyR.enc ⟨2, 0, 3000⟩); iterate 4 exact rfl | apply es_buildS hT (cs := PartyR.enc ⟨3, 0, 0⟩); iterate 4 exact rfl | (apply es_buildSlice hT; (iterate 12 exact rfl); first | (fail_if_success (have q := g10)); intro g10 | (fail_if_success (have q := g16)); intro g16) | (apply es_buildS hT (cs := (rulesV (some ⟨g10, 0, none⟩) 2 2 (some ⟨g16, 0, none⟩) 5 5 3 50).cells.toList); iterate 4 exact rfl) | (apply es_bitsV; (iterate 6 exact rfl); exact hw) | (apply es_store hT; (iterate 6 exact rfl); (repeat (first | exact sel0 | apply selS )); (iterate 3 exact rfl); exact nle rfl) | (apply es_load; (iterate 5 exact rfl); first | (apply ld_all hT; exact rfl; exact rfl; (repeat (first | exact mcs | apply mcm )); exact rfl)) | (apply es_alloc hT; (iterate 5 exact rfl); intro _) | (apply aw_condF; iterate 2 exact rfl))
    all_goals (apply ret1c; exact rfl; (apply ld_all hT; exact rfl; exact rfl; (repeat (first | exact mcs)); exact rfl); exact ⟨_, by show DropTo _ (.own (some ⟨g10, 0, none⟩) 2 2 79 7 ((wayB 0).flatMap BondR.enc) :: .own (some ⟨g16, 0, none⟩) 5 5 82 3 ((wayP 0).flatMap PartyR.enc) :: h); (repeat (first | exact dt_end | (apply dt_cons; · (repeat (first | exact sel0 | apply selS ))) | apply dt_skip)), _, _, _, _, rfl, rfl⟩)
  · skip
    repeat' (first | apply aw_seq | apply aw_region | apply aw_ret | apply aw_block | apply es_nil | apply es_pure hT; iterate 4 exact rfl | apply es_buildS hT (cs := BondR.enc kb1); iterate 4 exact rfl | apply es_buildS hT (cs := BondR.enc kb2); iterate 4 exact rfl | apply es_buildS hT (cs := PartyR.enc ⟨1, 12, 0⟩); iterate 4 exact rfl | apply es_buildS hT (cs := PartyR.enc ⟨1, 4, 0⟩); iterate 4 exact rfl | apply es_buildS hT (cs := PartyR.enc ⟨2, 0, 100000⟩); iterate 4 exact rfl | apply es_buildS hT (cs := PartyR.enc ⟨2, 0, 3000⟩); iterate 4 exact rfl | apply es_buildS hT (cs := PartyR.enc ⟨3, 0, 0⟩); iterate 4 exact rfl | (apply es_buildSlice hT; (iterate 12 exact rfl); first | (fail_if_success (have q := g10)); intro g10 | (fail_if_success (have q := g16)); intro g16 | intro g39) | (apply es_buildS hT (cs := (rulesV (some ⟨g10, 0, none⟩) 2 2 (some ⟨g16, 0, none⟩) 5 5 3 50).cells.toList); iterate 4 exact rfl) | (apply es_bitsV; (iterate 6 exact rfl); exact hw) | (apply es_store hT; (iterate 6 exact rfl); (repeat (first | exact sel0 | apply selS )); (iterate 3 exact rfl); exact nle rfl) | (apply es_load; (iterate 5 exact rfl); first | (apply ld_all hT; exact rfl; exact rfl; (repeat (first | exact mcs | apply mcm )); exact rfl)) | (apply es_alloc hT; (iterate 5 exact rfl); intro _) | (apply aw_condT; iterate 2 exact rfl))
    all_goals (apply ret1c; exact rfl; (apply ld_all hT; exact rfl; exact rfl; (repeat (first | exact mcs)); exact rfl); exact ⟨_, by show DropTo _ (.own (some ⟨g39, 0, none⟩) 1 1 79 7 ((wayB 1).flatMap BondR.enc) :: .own (some ⟨g16, 0, none⟩) 5 5 82 3 ((wayP 1).flatMap PartyR.enc) :: h); (repeat (first | exact dt_end | (apply dt_cons; · (repeat (first | exact sel0 | apply selS ))) | apply dt_skip)), _, _, _, _, rfl, rfl⟩)
  · skip
    repeat' (first | apply aw_seq | apply aw_region | apply aw_ret | apply aw_block | apply es_nil | apply es_pure hT; iterate 4 exact rfl | apply es_buildS hT (cs := BondR.enc kb1); iterate 4 exact rfl | apply es_buildS hT (cs := BondR.enc kb2); iterate 4 exact rfl | apply es_buildS hT (cs := PartyR.enc ⟨1, 12, 0⟩); iterate 4 exact rfl | apply es_buildS hT (cs := PartyR.enc ⟨1, 4, 0⟩); iterate 4 exact rfl | apply es_buildS hT (cs := PartyR.enc ⟨2, 0, 100000⟩); iterate 4 exact rfl | apply es_buildS hT (cs := PartyR.enc ⟨2, 0, 3000⟩); iterate 4 exact rfl | apply es_buildS hT (cs := PartyR.enc ⟨3, 0, 0⟩); iterate 4 exact rfl | (apply es_buildSlice hT; (iterate 12 exact rfl); first | (fail_if_success (have q := g10)); intro g10 | (fail_if_success (have q := g16)); intro g16 | intro g39) | (apply es_buildS hT (cs := (rulesV (some ⟨g10, 0, none⟩) 2 2 (some ⟨g16, 0, none⟩) 5 5 3 50).cells.toList); iterate 4 exact rfl) | (apply es_bitsV; (iterate 6 exact rfl); exact hw) | (apply es_store hT; (iterate 6 exact rfl); (repeat (first | exact sel0 | apply selS )); (iterate 3 exact rfl); exact nle rfl) | (apply es_load; (iterate 5 exact rfl); first | (apply ld_all hT; exact rfl; exact rfl; (repeat (first | exact mcs | apply mcm )); exact rfl)) | (apply es_alloc hT; (iterate 5 exact rfl); intro _) | (apply aw_condT; iterate 2 exact rfl) | (apply aw_condF; iterate 2 exact rfl))
    all_goals (apply ret1c; exact rfl; (apply ld_all hT; exact rfl; exact rfl; (repeat (first | exact mcs)); exact rfl); exact ⟨_, by show DropTo _ (.own (some ⟨g39, 0, none⟩) 2 2 79 7 ((wayB 2).flatMap BondR.enc) :: .own (some ⟨g16, 0, none⟩) 5 5 82 3 ((wayP 2).flatMap PartyR.enc) :: h); (repeat (first | exact dt_end | (apply dt_cons; · (repeat (first | exact sel0 | apply selS ))) | apply dt_skip)), _, _, _, _, rfl, rfl⟩)
  · skip
    repeat' (first | apply aw_seq | apply aw_region | apply aw_ret | apply aw_block | apply es_nil | apply es_pure hT; iterate 4 exact rfl | apply es_buildS hT (cs := BondR.enc kb1); iterate 4 exact rfl | apply es_buildS hT (cs := BondR.enc kb2); iterate 4 exact rfl | apply es_buildS hT (cs := PartyR.enc ⟨1, 12, 0⟩); iterate 4 exact rfl | apply es_buildS hT (cs := PartyR.enc ⟨1, 4, 0⟩); iterate 4 exact rfl | apply es_buildS hT (cs := PartyR.enc ⟨2, 0, 100000⟩); iterate 4 exact rfl | apply es_buildS hT (cs := PartyR.enc ⟨2, 0, 3000⟩); iterate 4 exact rfl | apply es_buildS hT (cs := PartyR.enc ⟨3, 0, 0⟩); iterate 4 exact rfl | apply es_buildS hT (cs := PartyR.enc ⟨2, 0, 0⟩); iterate 4 exact rfl | (apply es_buildSlice hT; (iterate 12 exact rfl); first | (fail_if_success (have q := g10)); intro g10 | (fail_if_success (have q := g16)); intro g16 | intro g39) | (apply es_buildS hT (cs := (rulesV (some ⟨g10, 0, none⟩) 2 2 (some ⟨g16, 0, none⟩) 5 5 3 50).cells.toList); iterate 4 exact rfl) | (apply es_bitsV; (iterate 6 exact rfl); exact hw) | (apply es_store hT; (iterate 6 exact rfl); (repeat (first | exact sel0 | apply selS )); (iterate 3 exact rfl); exact nle rfl) | (apply es_append hT; (iterate 10 exact rfl); (repeat (first | exact sel0 | apply selS )); exact Reads.own mem0 rfl (List.all_eq_true.1 rfl); exact nle rfl; exact nle rfl; intro A' c') | (apply es_load; (iterate 5 exact rfl); first | (apply ld_blk hT; exact rfl; exact rfl; (repeat (first | exact mcs )); exact rfl; exact rfl) | (apply ld_all hT; exact rfl; exact rfl; (repeat (first | exact mcs | apply mcm )); exact rfl)) | (apply es_alloc hT; (iterate 5 exact rfl); intro _) | (apply aw_condT; iterate 2 exact rfl) | (apply aw_condF; iterate 2 exact rfl))
    all_goals (apply ret1c; exact rfl; (apply ld_all hT; exact rfl; exact rfl; (repeat (first | exact mcs)); exact rfl); exact ⟨_, by show DropTo _ (.own (some ⟨g10, 0, none⟩) 2 2 79 7 ((wayB 3).flatMap BondR.enc) :: .own A' 7 c' 82 3 ((wayP 3).flatMap PartyR.enc) :: h); (repeat (first | exact dt_end | (apply dt_cons; · (repeat (first | exact sel0 | apply selS ))) | apply dt_skip)), _, _, _, _, rfl, rfl⟩)
theorem desk_NewW (W : World) (h : List Chunk) (w : Int) (hw4 : w = 0 ∨ w = 1 ∨ w = 2 ∨ w = 3) (A1 A2 : Option Addr) (c1 c2 : Nat) (m1 : Chunk.own A1 (wayB w).length c1 79 7 ((wayB w).flatMap BondR.enc) ∈ h) (m2 : Chunk.own A2 (wayP w).length c2 82 3 ((wayP w).flatMap PartyR.enc) ∈ h) :
    FSpec Tryz.prog W 13 [rulesV A1 (wayB w).length c1 A2 (wayP w).length c2 (wayL w) (wayBt w)] h (fun v h' => ∃ x bks rows, v = ptrV x.d ∧ h' = deskTab x (wayD w) bks rows h ∧ deskFits (wayD w) bks rows) := by
  have hl : (wayB w).length ≤ 1000000 ∧ (wayP w).length ≤ 1000000 := by rcases hw4 with rfl | rfl | rfl | rfl <;> exact ⟨Nat.le_of_ble_eq_true rfl, Nat.le_of_ble_eq_true rfl⟩
  refine (desk_New W h A1 c1 (wayB w) A2 c2 (wayP w) (wayL w) (wayBt w) (Reads.enc BondR.enc_len BondR.enc_one m1 rfl) (Reads.enc PartyR.enc_len PartyR.enc_one m2 rfl) hl.1 hl.2).mono ?_
  rintro v h' (⟨a, _⟩ | ⟨_, b⟩)
  · rw [wayR hw4] at a; cases a
  · exact b
/-! ### what is told first -/
def headV (o : List OutR) : Int := match o with
  | [] => -1
  | x :: r => if x.msg.kind = 18 then 0 else if x.msg.kind = 19 ∧ r = [] then x.msg.f1 else -1
set_option maxHeartbeats 1000000 in
theorem head23 (W : World) (h : List Chunk) (A : Option Addr) (c : Nat) (o : List OutR) (hr : Reads W h A o.length 8 (o.flatMap OutR.enc)) : QSpec Tryz.prog W 16 [.slice A o.length c] h (.int .i64 (headV o)) := by
  refine QSpec.ofD (fun h' hs => ?_)
  have hrd := hr.mono hs
  refine spec_body Tryz.func16 rfl rfl Tryz.results16 Tryz.ntmps16 rfl rfl ?_
  refine aw_reads hrd rfl (fun hAi => ?_)
  rcases o with _ | ⟨x, r⟩
  · repeat' (first | apply aw_seq | apply aw_region | apply aw_ret | apply aw_block | apply es_nil | apply es_pure hT; iterate 4 exact rfl | apply aw_condT; iterate 2 exact rfl)
    all_goals first
      | (exfalso; omega)
      | (apply ret1; exact rfl; exact ⟨rfl, by (repeat (first | exact dt_end))⟩)
      | skip
  · have hA := hAi (Nat.succ_pos _)
    have hx : (x :: r)[(0 : Int).toNat]? = some x := rfl
    have hx1 : (x :: r)[(0 : Int).toNat]? = some x := rfl
    unfold headV
    rcases r with _ | ⟨y, r⟩
    all_goals
      simp only [List.length_cons, List.length_nil] at *
      repeat' (first | apply aw_seq | apply aw_region | apply aw_ret | apply aw_skip | apply aw_block | apply es_nil | apply es_pure hT; iterate 4 exact rfl | apply es_skip; iterate 3 exact rfl | apply es_idx hT; (iterate 8 exact rfl); (iterate 2 omega); exact hA | (apply es_load; (iterate 5 exact rfl); first | exact ld_fld hT rfl rfl hrd OutR.enc_len (by rw [adr_add, adr_add]; rfl) hx (f := 1) (by decide) rfl | exact ld_fld hT rfl rfl hrd OutR.enc_len (by rw [adr_add, adr_add, adr_add]; rfl) hx (f := 3) (by decide) rfl) | apply es_idxArrG hT; (iterate 8 exact rfl); (iterate 2 omega) | apply aw_condT; iterate 2 exact rfl | apply aw_condF; iterate 2 exact rfl | (apply es_case; exact rfl; all_goals (intro hb; (fail_if_success (change true = true at hb)); (fail_if_success (change false = false at hb)); (try dsimp only at hb); (try simp only [hb]); (first | replace hb := odt hb | replace hb := odf hb ); (try omega))) | (apply aw_cond; exact rfl; all_goals (intro hb; (try dsimp only at hb); (try simp only [hb]); (first | replace hb := odt hb | replace hb := odf hb ); (try omega))))
      all_goals first
        | (exfalso; omega)
        | (apply ret1; exact rfl; exact ⟨by (first | simp [*]; done), by (repeat (first | exact dt_end))⟩)
        | skip
end Go.Proofs.YtakilgkpfjhfdaaGreat

namespace Go.Proofs.YtakilgkpfjhfdaaGreat
open Go Go.Sl
attribute [local irreducible] AW ES EP Ld RetQ
set_option maxRecDepth 100000
structure Act23 where
  kind : Int
  who : Int
  n : Int
  msg : MsgR
def Act23.enc (a : Act23) : List Value := [.int .i64 a.kind, .int .i64 a.who, .int .i64 a.n] ++ a.msg.enc
theorem Act23.enc_len (a : Act23) : a.enc.length = 10 := rfl
def Act23.ok (a : Act23) : Prop := MsgW a.msg
end Go.Proofs.YtakilgkpfjhfdaaGreat

namespace Go.Sl
open Go Go.RowKit
def eqFsT (f : TypeId → Value → Value → Option Bool) (T : Tab) (xs ys : List Value) : List Field → Option Bool
  | [] => some true
  | g :: fs => if g.name = "_" then none else
    match partV T g.type xs g.offset, partV T g.type ys g.offset with
    | some u, some v => match f g.type u v, eqFsT f T xs ys fs with
      | some a, some b => some (a && b)
      | _, _ => none
    | _, _ => none
def eqItT (f : Value → Value → Option Bool) (T : Tab) (e : TypeId) (c : Nat) (xs ys : List Value) : List Nat → Option Bool
  | [] => some true
  | i :: is => match partV T e xs (i * c), partV T e ys (i * c) with
    | some u, some v => match f u v, eqItT f T e c xs ys is with
      | some a, some b => some (a && b)
      | _, _ => none
    | _, _ => none
def eqT (T : Tab) (hd : List TypeId) : Nat → TypeId → Value → Value → Option Bool
  | 0, _, _, _ => none
  | n + 1, t, x, y => match T.lookup t with
    | some ⟨.int _, _, _, _⟩ => (match x, y with
      | .int k a, .int k' b => if k = k' then some (a == b) else none
      | _, _ => none)
    | some ⟨.bool, _, _, _⟩ => (match x, y with
      | .bool a, .bool b => some (a == b)
      | _, _ => none)
    | some ⟨.struct fs, _, _, _⟩ => (match x, y with
      | .agg xs, .agg ys => if hd.contains t then eqFsT (eqT T hd n) T xs.toList ys.toList fs.toList else none
      | _, _ => none)
    | some ⟨.array len e, _, _, _⟩ => (match x, y with
      | .agg xs, .agg ys => (match T.lookup e with
        | some te => eqItT (eqT T hd n e) T e te.size xs.toList ys.toList (List.range len)
        | none => none)
      | _, _ => none)
    | _ => none
section
variable {P : Program} {W : World} {T : Tab} {N : Nat} {env : Env} {h : List Chunk} {kf : KF} {ops : Array Oper} {K : Env → List Chunk → Prop} {rest : List Oper}
theorem eqFsT_run (hT : TabOK P T) {f : TypeId → Value → Value → Option Bool} {m : Nat} (hf : ∀ t x y b, f t x y = some b → ∀ w, (Op.equalIn m t x y).run P w = .ok b w) {xs ys : Array Value} :
    ∀ {fs : List Field} {b : Bool}, eqFsT f T xs.toList ys.toList fs = some b → ∀ w : World, (Op.eqFields m xs ys fs).run P w = .ok b w
  | [], b, he, w => by simp [eqFsT] at he; simp [Op.eqFields, he]
  | g :: fs, b, he, w => by
    unfold eqFsT at he
    split at he
    · cases he
    · rename_i hn
      split at he
      · rename_i u v hu hv
        split at he
        · rename_i a1 b1 h1 h2
          injection he with he
          subst he
          have h3 := hf _ _ _ _ h1 w
          have ih := eqFsT_run hT hf h2 w
          have p1 := part_run hT hu w
          have p2 := part_run hT hv w
          unfold Op.eqFields
          rw [if_pos hn]
          simp only [Sem.run_bind, p1, p2, Result.andThen_ok, h3]
          cases a1
          · simp
          · simp [ih]
        · cases he
      · cases he
theorem eqItT_run (hT : TabOK P T) {f : Value → Value → Option Bool} {m c : Nat} {e : TypeId} (hf : ∀ x y b, f x y = some b → ∀ w, (Op.equalIn m e x y).run P w = .ok b w) {xs ys : Array Value} :
    ∀ {is : List Nat} {b : Bool}, eqItT f T e c xs.toList ys.toList is = some b → ∀ w : World, (Op.eqItems m e c xs ys is).run P w = .ok b w
  | [], b, he, w => by simp [eqItT] at he; simp [Op.eqItems, he]
  | i :: is, b, he, w => by
    unfold eqItT at he
    split at he
    · rename_i u v hu hv
      split at he
      · rename_i a1 b1 h1 h2
        injection he with he
        subst he
        have h3 := hf _ _ _ h1 w
        have ih := eqItT_run hT hf h2 w
        have p1 := part_run hT hu w
        have p2 := part_run hT hv w
        unfold Op.eqItems
        simp only [Sem.run_bind, p1, p2, Result.andThen_ok, h3]
        cases a1
        · simp
        · simp [ih]
      · cases he
    · cases he
theorem eqT_run (hT : TabOK P T) {hd : List TypeId} (hs : ∀ t ∈ hd, P.stoodInHeld t = false) : ∀ (n : Nat) (t : TypeId) (x y : Value) (b : Bool), eqT T hd n t x y = some b → ∀ (d : Nat) (w : World), (Op.equalIn (d + n) t x y).run P w = .ok b w
  | 0, t, x, y, b, he, d, w => by simp [eqT] at he
  | n + 1, t, x, y, b, he, d, w => by
    unfold eqT at he
    split at he
    · rename_i k s bb z hl
      have g := (hT _ _ hl).und
      split at he
      · split at he
        · rename_i hk
          injection he with he
          subst he hk
          rw [show d + (n + 1) = (d + n) + 1 by omega, Op.equalIn]
          simp only [Sem.run_bind, g, Result.andThen_ok, if_true, Sem.run_pure]
        · cases he
      · cases he
    · rename_i s bb z hl
      have g := (hT _ _ hl).und
      split at he
      · injection he with he
        subst he
        rw [show d + (n + 1) = (d + n) + 1 by omega, Op.equalIn]
        simp only [Sem.run_bind, g, Result.andThen_ok, Sem.run_pure]
      · cases he
    · rename_i fs s bb z hl
      split at he
      · rename_i xs ys
        split at he
        · rename_i hc
          have hu : P.underlying t = some (.struct fs) := (hT _ _ hl).1
          have hf : P.fieldsOf t = fs := by simp [Program.fieldsOf, hu]
          rw [show d + (n + 1) = (d + n) + 1 by omega, run_equalIn_struct w (d + n) t xs ys (by rw [hf]; exact hu) (hs t (by simpa using hc)), hf]
          exact eqFsT_run hT (fun t x y b h w => eqT_run hT hs n t x y b h d w) he w
        · cases he
      · cases he
    · rename_i len e s bb z hl
      split at he
      · rename_i xs ys
        split at he
        · rename_i te hte
          have hu : P.underlying t = some (.array len e) := (hT _ _ hl).1
          obtain ⟨_, i, hi, h1, _⟩ := hT _ _ hte
          have hc : P.cellsOf e = te.size := by simp [Program.cellsOf, hi, h1]
          rw [show d + (n + 1) = (d + n) + 1 by omega, run_equalIn_array w (d + n) xs ys hu hi, hc]
          exact eqItT_run hT (fun x y b h w => eqT_run hT hs n e x y b h d w) he w
        · cases he
      · cases he
    · cases he
theorem es_eqT (hT : TabOK P T) {b r : Bool} {n : Nat} {hd : List TypeId} {d : Tmp} {t yt : TypeId} {x y : Operand} {xs ys : Array Value} {ty pos af g} (hg : evalG ops env g = some b) (hb : b = true) (hd' : Nat.blt d N = true) (hx : evalE env x = some (.agg xs)) (hy : evalE env y = some (.agg ys)) (he : eqT T hd n t (.agg xs) (.agg ys) = some r) (hn : n ≤ 10000) (hs : ∀ t ∈ hd, P.stoodInHeld t = false) (hm : P.eqGuardType P.depth t = false)
    (hK : ES P W N kf ops rest ((d, .bool r) :: env) h K) : ES P W N kf ops (⟨some d, .binOp .eql t x y yt, ty, pos, af, g⟩ :: rest) env h K :=
  es_run hg hb hd' (fun a ha w => by
    have h1 := eqT_run hT hs n t _ _ r he (10000 - n) w
    rw [show 10000 - n + n = 10000 by omega] at h1
    simp only [execOp, ha.eval hx, ha.eval hy, Sem.run_bind, run_eqGuard_agg w .eql t x y xs ys hm, Result.andThen_ok, run_eql_struct, h1, Sem.run_pure]) hK
end
end Go.Sl

namespace Go.Proofs.YtakilgkpfjhfdaaGreat
open Go Go.Sl
set_option maxRecDepth 100000
theorem sOKOut : structOK Tryz.prog 45 := ⟨by kernel_rfl, by kernel_rfl⟩
theorem sOKMsg : structOK Tryz.prog 25 := ⟨by kernel_rfl, by kernel_rfl⟩
theorem heldOM : ∀ t ∈ [45, 25], Program.stoodInHeld Tryz.prog t = false := fun t ht => by
  rcases List.mem_cons.1 ht with rfl | ht
  · exact sOKOut.1
  · rw [List.mem_singleton.1 ht]; exact sOKMsg.1
def msgB (a b : MsgR) : Bool := (a.kind == b.kind) && (((a.f0 == b.f0) && ((a.f1 == b.f1) && ((a.f2 == b.f2) && ((a.f3 == b.f3) && ((a.f4 == b.f4) && ((a.f5 == b.f5) && true)))))) && true)
theorem msgB_eq (a b : MsgR) : msgB a b = decide (a = b) := by
  cases a; cases b
  unfold msgB
  rw [Bool.eq_iff_iff]
  simp only [Bool.and_eq_true, beq_iff_eq, decide_eq_true_eq, MsgR.mk.injEq, and_true]
theorem eqMsg (a b : MsgR) : eqT TT [45, 25] 4 25 (.agg a.enc.toArray) (.agg b.enc.toArray) = some (decide (a = b)) := by
  rw [← msgB_eq]; rfl
end Go.Proofs.YtakilgkpfjhfdaaGreat

namespace Go.Proofs.YtakilgkpfjhfdaaGreat
open Go Go.Sl
attribute [local irreducible] AW ES EP Ld RetQ
set_option maxRecDepth 100000
theorem do_outs {N : Nat} {s : Dk} (hD : DOK N s) {who seq : Int} {m : MsgR} : (doD false s who seq m).2.length ≤ 1000001 := by
  have h := does_outs hD (who := who) (m := m)
  unfold doD
  dsimp only
  split
  · show 1 ≤ _; omega
  · rw [List.length_cons]; omega
def sto1 (s : Dk) : Dk × List OutR := doD false s 0 1 (msgOf 9 [0, 1, 10, 12, 20])
def sto2 (s : Dk) : Dk × List OutR := doD false (sto1 s).1 2 1 (msgOf 10 [1, 100, 10])
def sto3 (s : Dk) : Dk × List OutR := doD false (sto2 s).1 3 1 (msgOf 10 [1, 105, 10])
def sto4 (s : Dk) : Dk × List OutR := doD false (sto3 s).1 0 2 (msgOf 12 [1])
def storyD (s : Dk) : Dk × List OutR := ((sto4 s).1, (sto1 s).2 ++ (sto2 s).2 ++ (sto3 s).2 ++ (sto4 s).2)
theorem story_ok {N : Nat} {s : Dk} (hD : DOK N s) (hO : OwnI s) : DOK (N + 4) (storyD s).1 ∧ OwnI (storyD s).1 := by
  have h1 := hD.do' (rf := false) 0 1 (msgOf 9 [0, 1, 10, 12, 20])
  have o1 := hO.do' (rf := false) hD 0 1 (msgOf 9 [0, 1, 10, 12, 20])
  have h2 := h1.do' (rf := false) 2 1 (msgOf 10 [1, 100, 10])
  have o2 := o1.do' (rf := false) h1 2 1 (msgOf 10 [1, 100, 10])
  have h3 := h2.do' (rf := false) 3 1 (msgOf 10 [1, 105, 10])
  have o3 := o2.do' (rf := false) h2 3 1 (msgOf 10 [1, 105, 10])
  exact ⟨h3.do' (rf := false) 0 2 (msgOf 12 [1]), o3.do' (rf := false) h3 0 2 (msgOf 12 [1])⟩
theorem ofL (W : World) (h : List Chunk) (g : Nat) (n : Nat) (kind : Int) (ns : List Int) (hm : Chunk.own (some ⟨g, 0, none⟩) n n 2 1 (ns.map (Value.int .i64)) ∈ h) (hn : ns.length = n) (hl : n ≤ 6) :
    QSpec Tryz.prog W 12 [.int .i64 kind, .slice (some ⟨g, 0, none⟩) n n] h (.agg (msgOf kind ns).enc.toArray) := by
  subst hn
  exact ref5_Of W h (some ⟨g, 0, none⟩) ns.length kind ns (Reads.ints hm rfl) hl
set_option maxHeartbeats 8000000 in
theorem story23 (W : World) (F : List Chunk) (x : DAd) (s : Dk) (bks : List BAd) (rows : List PRow) (N : Nat) (hD : DOK N s) (hO : OwnI s) (hN : N ≤ 9000) (hf : deskFits s bks rows) :
    FSpec Tryz.prog W 18 [ptrV x.d] (deskTab x s bks rows F) (ActPost x F (storyD s)) := by
  refine FSpec.dropF ?_
  have h1 := hD.do' (rf := false) 0 1 (msgOf 9 [0, 1, 10, 12, 20])
  have o1 := hO.do' (rf := false) hD 0 1 (msgOf 9 [0, 1, 10, 12, 20])
  have h2 := h1.do' (rf := false) 2 1 (msgOf 10 [1, 100, 10])
  have o2 := o1.do' (rf := false) h1 2 1 (msgOf 10 [1, 100, 10])
  have h3 := h2.do' (rf := false) 3 1 (msgOf 10 [1, 105, 10])
  have o3 := o2.do' (rf := false) h2 3 1 (msgOf 10 [1, 105, 10])
  have l1 := do_outs hD (who := 0) (seq := 1) (m := msgOf 9 [0, 1, 10, 12, 20])
  have l2 := do_outs h1 (who := 2) (seq := 1) (m := msgOf 10 [1, 100, 10])
  have l3 := do_outs h2 (who := 3) (seq := 1) (m := msgOf 10 [1, 105, 10])
  have l4 := do_outs h3 (who := 0) (seq := 2) (m := msgOf 12 [1])
  have w1 : MsgW (msgOf 9 [0, 1, 10, 12, 20]) := by unfold MsgW inW msgOf; decide
  have w2 : MsgW (msgOf 10 [1, 100, 10]) := by unfold MsgW inW msgOf; decide
  have w3 : MsgW (msgOf 10 [1, 105, 10]) := by unfold MsgW inW msgOf; decide
  have w4 : MsgW (msgOf 12 [1]) := by unfold MsgW inW msgOf; decide
  have d1 := fun G => desk_Do W G x s bks rows N hD hO (by omega) hf 0 1 _ w1
  have d2 := fun G (y : DAd) b r f => desk_Do W G (y.at x.d) _ b r (N + 1) h1 o1 (by omega) f 2 1 _ w2
  have d3 := fun G (y : DAd) b r f => desk_Do W G (y.at x.d) _ b r (N + 1 + 1) h2 o2 (by omega) f 3 1 _ w3
  have d4 := fun G (y : DAd) b r f => desk_Do W G (y.at x.d) _ b r (N + 1 + 1 + 1) h3 o3 (by omega) f 0 2 _ w4
  clear h1 o1 h2 o2 h3 o3 w1 w2 w3 w4
  unfold storyD sto4 sto3 sto2 sto1
  generalize doD false s 0 1 (msgOf 9 [0, 1, 10, 12, 20]) = r1 at *
  generalize doD false r1.1 2 1 (msgOf 10 [1, 100, 10]) = r2 at *
  generalize doD false r2.1 3 1 (msgOf 10 [1, 105, 10]) = r3 at *
  generalize doD false r3.1 0 2 (msgOf 12 [1]) = r4 at *
  refine spec_body Tryz.func18 rfl rfl Tryz.results18 Tryz.ntmps18 rfl rfl ?_
  repeat' (first | apply aw_seq | apply aw_region | apply aw_ret | apply es_nil | apply es_pure hT; iterate 4 exact rfl | apply es_buildSlice (cs := [.int .i64 0, .int .i64 1, .int .i64 10, .int .i64 12, .int .i64 20]) hT; (iterate 12 exact rfl); intro g6 | apply es_buildSlice (cs := [.int .i64 1, .int .i64 100, .int .i64 10]) hT; (iterate 12 exact rfl); intro g12 | apply es_buildSlice (cs := [.int .i64 1, .int .i64 105, .int .i64 10]) hT; (iterate 12 exact rfl); intro g18 | apply es_buildSlice (cs := [.int .i64 1]) hT; (iterate 12 exact rfl); intro g24 | ((fail_if_success (have q := y1)); apply es_callQ; (iterate 7 exact rfl); exact (ofL W _ g6 5 9 [0, 1, 10, 12, 20] (by (repeat (first | exact mcs | apply mcm ))) rfl (Nat.le_of_ble_eq_true rfl))) | ((fail_if_success (have q := y2)); apply es_callQ; (iterate 7 exact rfl); exact (ofL W _ g12 3 10 [1, 100, 10] (by (repeat (first | exact mcs | apply mcm ))) rfl (Nat.le_of_ble_eq_true rfl))) | ((fail_if_success (have q := y3)); apply es_callQ; (iterate 7 exact rfl); exact (ofL W _ g18 3 10 [1, 105, 10] (by (repeat (first | exact mcs | apply mcm ))) rfl (Nat.le_of_ble_eq_true rfl))) | ((fail_if_success (have q := y4)); apply es_callQ; (iterate 7 exact rfl); exact (ofL W _ g24 1 12 [1] (by (repeat (first | exact mcs | apply mcm ))) rfl (Nat.le_of_ble_eq_true rfl))) | ((fail_if_success (have q := y1)); apply es_call; (iterate 7 exact rfl); exact (FSpec.perm (d1 _) (by unfold deskTab; (repeat (first | exact List.Perm.refl _ | (apply permC; · (repeat (first | exact sel0 | apply selS ))) | (apply permCA; · (repeat (first | exact pullA0 | apply pullAS ))))))); rintro _ _ ⟨y1, b1, q1, A1, c1, rfl, rfl, f1, v1⟩) | ((fail_if_success (have q := y2)); apply es_call; (iterate 7 exact rfl); exact (FSpec.perm (d2 _ y1 b1 q1 f1) (by unfold deskTab; (repeat (first | exact List.Perm.refl _ | (apply permC; · (repeat (first | exact sel0 | apply selS ))) | (apply permCA; · (repeat (first | exact pullA0 | apply pullAS ))))))); rintro _ _ ⟨y2, b2, q2, A2, c2, rfl, rfl, f2, v2⟩) | ((fail_if_success (have q := y3)); apply es_call; (iterate 7 exact rfl); exact (FSpec.perm (d3 _ y2 b2 q2 f2) (by unfold deskTab; (repeat (first | exact List.Perm.refl _ | (apply permC; · (repeat (first | exact sel0 | apply selS ))) | (apply permCA; · (repeat (first | exact pullA0 | apply pullAS ))))))); rintro _ _ ⟨y3, b3, q3, A3, c3, rfl, rfl, f3, v3⟩) | ((fail_if_success (have q := y4)); apply es_call; (iterate 7 exact rfl); exact (FSpec.perm (d4 _ y3 b3 q3 f3) (by unfold deskTab; (repeat (first | exact List.Perm.refl _ | (apply permC; · (repeat (first | exact sel0 | apply selS ))) | (apply permCA; · (repeat (first | exact pullA0 | apply pullAS ))))))); rintro _ _ ⟨y4, b4, q4, A4, c4, rfl, rfl, f4, v4⟩) | apply es_append0 hT; (iterate 10 exact rfl); exact v1.reads mem0; omega; (show (_ : Nat) * 64 ≤ _; omega); intro B1 e1 | (apply es_append hT; (iterate 10 exact rfl); (repeat (first | exact sel0 | apply selS | apply selApp)); (first | exact v2.reads mem0 | exact v3.reads mem0 | exact v4.reads mem0); omega; (show (_ : Nat) * 64 ≤ _; omega); first | (fail_if_success (have q := B2)); intro B2 e2 | (fail_if_success (have q := B3)); intro B3 e3 | intro B4 e4))
  all_goals try omega
  all_goals
    have hl : (r1.2 ++ r2.2 ++ r3.2 ++ r4.2).length = r1.2.length + r2.2.length + r3.2.length + r4.2.length := by simp only [List.length_append]
    have hfm : (r1.2 ++ r2.2 ++ r3.2 ++ r4.2).flatMap OutR.enc = r1.2.flatMap OutR.enc ++ r2.2.flatMap OutR.enc ++ r3.2.flatMap OutR.enc ++ r4.2.flatMap OutR.enc := by simp only [List.flatMap_append]
    apply ret1
    exact rfl
    refine ⟨.own B4 (r1.2.length + r2.2.length + r3.2.length + r4.2.length) e4 45 8 (r1.2.flatMap OutR.enc ++ r2.2.flatMap OutR.enc ++ r3.2.flatMap OutR.enc ++ r4.2.flatMap OutR.enc) :: deskTab (y4.at x.d) r4.1 b4 q4 F, by (try unfold deskTab); (repeat (first | exact dt_end | (apply dt_cons; · (repeat (first | exact sel0 | apply selS ))) | (apply dt_consA; · (repeat (first | exact pullA0 | apply pullAS ))) | apply dt_skip)), fun w hw => ⟨y4, b4, q4, B4, e4, by dsimp only; rw [hl], by dsimp only; rw [hl, hfm], f4, by dsimp only; rw [hl, hfm]; exact hw.ownF mem0⟩⟩
end Go.Proofs.YtakilgkpfjhfdaaGreat

namespace Go.Proofs.YtakilgkpfjhfdaaGreat
open Go Go.Sl
attribute [local irreducible] AW ES EP Ld RetQ
set_option maxRecDepth 100000
def kO : List OutR := [outM 2 18 [2, 1], outM 0 26 [1, 100], outM 0 28 [1, 1, 0, 100, 10, 2], outM 2 28 [1, 2, 0, 100, 10, 0]]
def kT : TradeR := ⟨1, 0, 0, 2, 100, 10, 1, 0⟩
theorem kn : (doD false (storyD (wayD 0)).1 2 2 (msgOf 14 [1])).2 = kO ∧ (doD false (storyD (wayD 0)).1 2 2 (msgOf 14 [1])).1.trades = [kT] := by decide +kernel
theorem sOKTr : structOK Tryz.prog 103 := ⟨by kernel_rfl, by kernel_rfl⟩
theorem wayD_ok {w : Int} (hw : w = 0 ∨ w = 1 ∨ w = 2 ∨ w = 3) : DOK 0 (wayD w) ∧ OwnI (wayD w) := ⟨DOK.new (wayR hw), OwnI.new⟩
theorem desk_TradesF (W : World) (h : List Chunk) (x : DAd) (s : Dk) (m0 : Chunk.blk x.d 95 (deskCs x s) ∈ h) (m1 : Chunk.blk x.b 138 [x.trades.sl s.trades.length, .int .u64 s.head] ∈ h) (m2 : x.trades.own s.trades.length 103 8 (s.trades.flatMap TradeR.enc) ∈ h) (hb : s.trades.length ≤ 1000000) :
    FSpec Tryz.prog W 24 [ptrV x.d] h (fun v h' => ∃ A' c', v = .slice A' s.trades.length c' ∧ h' = .own A' s.trades.length c' 103 8 (s.trades.flatMap TradeR.enc) :: h ∧ OwnF A' s.trades.length c' 8 (s.trades.flatMap TradeR.enc)) :=
  (desk_Trades W h x s m0 m1 m2 hb).conv (by
    rintro v h' ⟨A, c, rfl, rfl⟩ w hw
    exact ⟨_, hw, A, c, rfl, rfl, hw.ownF mem0⟩)
set_option maxHeartbeats 4000000 in
theorem known23 (W : World) (h : List Chunk) : FSpec Tryz.prog W 17 [] h (fun v h' => v = .bool true ∧ h' = h) := by
  refine FSpec.dropTo ?_
  obtain ⟨hD, hO⟩ := wayD_ok (w := 0) (.inl rfl)
  obtain ⟨hD2, hO2⟩ := story_ok hD hO
  have hb0 : bitI .and .i64 0 3 = 0 := by decide +kernel
  have w4 : MsgW (msgOf 14 [1]) := by unfold MsgW inW msgOf; decide
  have dSt := fun G (x : DAd) b q f => story23 W G x (wayD 0) b q 0 hD hO (by omega) f
  have dDo := fun G (x : DAd) b q f => desk_Do W G x (storyD (wayD 0)).1 b q (0 + 4) hD2 hO2 (by omega) f 2 2 _ w4
  obtain ⟨k1, k2⟩ := kn
  clear hD2 hO2 hD hO w4
  generalize hr5 : doD false (storyD (wayD 0)).1 2 2 (msgOf 14 [1]) = r5 at *
  rcases r5 with ⟨s5, o5⟩
  dsimp only at k1 k2
  clear hr5
  have h4 : o5.length = 4 := by rw [k1]; rfl
  have hx0 : o5[(0 : Int).toNat]? = some (outM 2 18 [2, 1]) := by rw [k1]; rfl
  have hx1 : o5[(1 : Int).toNat]? = some (outM 0 26 [1, 100]) := by rw [k1]; rfl
  clear k1
  have dTr := fun h (x : DAd) m0 m1 m2 => (desk_TradesF W h x s5 m0 m1 m2 (by rw [k2]; exact nle rfl)).mono (R' := fun v h' => ∃ A' c', v = .slice A' 1 c' ∧ h' = .own A' 1 c' 103 8 ([kT].flatMap TradeR.enc) :: h ∧ OwnF A' 1 c' 8 ([kT].flatMap TradeR.enc)) (by
    rintro v h' ⟨A, c, rfl, rfl, hf⟩
    rw [k2] at hf ⊢
    exact ⟨A, c, rfl, rfl, hf⟩)
  generalize storyD (wayD 0) = r4 at *
  refine spec_body Tryz.func17 rfl rfl Tryz.results17 Tryz.ntmps17 rfl rfl ?_
  repeat' (first | apply aw_seq | apply aw_region | apply es_nil | apply es_pure hT; iterate 4 exact rfl | apply es_call; (iterate 7 exact rfl); exact (rules_w W _ 0 0 hb0 (.inl rfl)); rintro _ _ ⟨A1, c1, A2, c2, rfl, rfl⟩ | (apply es_call; (iterate 7 exact rfl); exact (desk_NewW W _ 0 (.inl rfl) A1 A2 c1 c2 (by (repeat (first | exact mcs | apply mcm ))) (by (repeat (first | exact mcs | apply mcm )))); rintro _ _ ⟨x, b0, q0, rfl, rfl, f0⟩) | apply es_call; (iterate 7 exact rfl); exact (dSt _ x b0 q0 f0); rintro _ _ ⟨y1, b1, q1, B1, e1, rfl, rfl, f1, v1⟩ | apply es_buildSlice (cs := [.int .i64 1]) hT; (iterate 12 exact rfl); intro g9 | (apply es_callQ; (iterate 7 exact rfl); exact (ofL W _ g9 1 14 [1] (by (repeat (first | exact mcs | apply mcm ))) rfl (Nat.le_of_ble_eq_true rfl))) | (apply es_call; (iterate 7 exact rfl); exact (FSpec.perm (dDo _ (y1.at x.d) b1 q1 f1) (by (try unfold deskTab); (repeat (first | exact List.Perm.refl _ | (apply permC; · (repeat (first | exact sel0 | apply selS ))) | (apply permCA; · (repeat (first | exact pullA0 | apply pullAS ))))))); rintro _ _ ⟨y2, b2, q2, B2, e2, rfl, rfl, f2, v2⟩) | (apply es_call; (iterate 7 exact rfl); exact (dTr _ (y2.at x.d) (by (repeat (first | exact mcs | apply mcm ))) (by (repeat (first | exact mcs | apply mcm ))) (by (repeat (first | exact mcs | apply mcm )))); rintro _ _ ⟨B3, e3, rfl, rfl, hf3⟩) | (apply es_case; exact rfl; all_goals (intro hb; (fail_if_success (change true = true at hb)); (fail_if_success (change false = false at hb)); (try dsimp only at hb); (try simp only [hb]); (first | replace hb := odt hb | replace hb := odf hb ); (try omega))))
  all_goals try omega
  all_goals
    dsimp only at v2 ⊢
    have hBA : B2.isSome = true := v2.some_ (by omega)
    have hCA : B3.isSome = true := hf3.some_ (by omega)
    have hy2 : [kT][(0 : Int).toNat]? = some kT := rfl
    repeat' (first | apply aw_ret | apply es_nil | apply es_pure hT; iterate 4 exact rfl | (apply es_idx hT; (iterate 8 exact rfl); (iterate 2 omega); first | exact hBA | exact hCA) | (apply es_load; (iterate 5 exact rfl); first | exact ld_fld hT rfl rfl (v2.reads (by (repeat (first | exact mcs | apply mcm )))) OutR.enc_len (by rw [adr_add, adr_add]; rfl) hx0 (f := 1) (by decide) rfl | exact ld_fld hT rfl rfl (v2.reads (by (repeat (first | exact mcs | apply mcm )))) OutR.enc_len (by rw [adr_add, adr_add]; rfl) hx1 (f := 1) (by decide) rfl | exact ld_elem hT rfl rfl (hf3.reads (by (repeat (first | exact mcs )))) TradeR.enc_len rfl hy2 rfl) | apply es_buildS hT (cs := TradeR.enc kT); iterate 4 exact rfl | (apply es_eqT (n := 2) (hd := [103]) (r := true) hT; (iterate 5 exact rfl); exact rfl; decide; exact (fun t ht => by rw [List.mem_singleton.1 ht]; exact sOKTr.1); exact sOKTr.2))
    all_goals try omega
    all_goals first
      | (apply ret1; exact rfl; exact ⟨h, by (try unfold deskTab); (repeat (first | exact dt_end | apply dt_skip | apply dt_app)), rfl, rfl⟩)
      | skip
end Go.Proofs.YtakilgkpfjhfdaaGreat

namespace Go.Proofs.YtakilgkpfjhfdaaGreat
open Go Go.Sl
attribute [local irreducible] AW ES EP Ld RetQ
set_option maxRecDepth 100000
theorem head23v (W : World) (h : List Chunk) (A : Option Addr) (c : Nat) (o : List OutR) {n : Int} (he : headV o = n) (hr : Reads W h A o.length 8 (o.flatMap OutR.enc)) : QSpec Tryz.prog W 16 [.slice A o.length c] h (.int .i64 n) := he ▸ head23 W h A c o hr
theorem desk_Trades0 (W : World) (h : List Chunk) (x : DAd) (s : Dk) (h0 : s.trades = []) (m0 : Chunk.blk x.d 95 (deskCs x s) ∈ h) (m1 : Chunk.blk x.b 138 [x.trades.sl s.trades.length, .int .u64 s.head] ∈ h) (m2 : x.trades.own s.trades.length 103 8 (s.trades.flatMap TradeR.enc) ∈ h) :
    FSpec Tryz.prog W 24 [ptrV x.d] h (fun v h' => ∃ A' c', v = .slice A' 0 c' ∧ h' = .own A' 0 c' 103 8 [] :: h) :=
  (desk_TradesF W h x s m0 m1 m2 (by rw [h0]; exact Nat.zero_le _)).mono (by
    rintro v h' ⟨A, c, rfl, rfl, hf⟩
    rw [h0]
    exact ⟨A, c, rfl, rfl⟩)
theorem look2_v : headV (doD false (doD false (storyD (wayD 0)).1 1 1 (msgOf 6 [0, 2, 95, 10, 0])).1 2 2 (msgOf 14 [1])).2 = 13 ∧ (doD false (doD false (storyD (wayD 0)).1 1 1 (msgOf 6 [0, 2, 95, 10, 0])).1 2 2 (msgOf 14 [1])).1.trades = [] := by decide +kernel
set_option maxHeartbeats 8000000 in
theorem look2 (W : World) : FSpec Tryz.prog W 8 [.int .i64 2] [] (fun v _ => v = .bool true) := by
  refine FSpec.dropTo ?_
  obtain ⟨hD0, hO0⟩ := wayD_ok (w := 0) (.inl rfl)
  have hb0 : bitI .and .i64 0 3 = 0 := by decide +kernel
  have sk0 := story_ok hD0 hO0
  have d1 := fun G (x : DAd) b q f => story23 W G x (wayD 0) b q (0) hD0 hO0 (by omega) f
  have hD1 := sk0.1
  have hO1 := sk0.2
  have w2 : MsgW (msgOf 6 [0, 2, 95, 10, 0]) := by unfold MsgW inW msgOf; decide
  have d2 := fun G (x : DAd) b q f => desk_Do W G x (storyD (wayD 0)).1 b q (0 + 4) hD1 hO1 (by omega) f 1 1 _ w2
  have hD2 := hD1.do' (rf := false) 1 1 (msgOf 6 [0, 2, 95, 10, 0])
  have hO2 := hO1.do' (rf := false) hD1 1 1 (msgOf 6 [0, 2, 95, 10, 0])
  have w3 : MsgW (msgOf 14 [1]) := by unfold MsgW inW msgOf; decide
  have d3 := fun G (x : DAd) b q f => desk_Do W G x (doD false (storyD (wayD 0)).1 1 1 (msgOf 6 [0, 2, 95, 10, 0])).1 b q (0 + 4 + 1) hD2 hO2 (by omega) f 2 2 _ w3
  have hD3 := hD2.do' (rf := false) 2 2 (msgOf 14 [1])
  have hO3 := hO2.do' (rf := false) hD2 2 2 (msgOf 14 [1])
  obtain ⟨h3, t3⟩ := look2_v
  clear hD3 hO3 hD2 hO2 hD1 hO1 hD0 hO0
  generalize storyD (wayD 0) = r1 at *
  generalize doD false r1.1 1 1 (msgOf 6 [0, 2, 95, 10, 0]) = r2 at *
  generalize doD false r2.1 2 2 (msgOf 14 [1]) = r3 at *
  refine spec_body Tryz.func8 rfl rfl Tryz.results8 Tryz.ntmps8 rfl rfl ?_
  repeat' (first | apply aw_seq | apply aw_region | apply es_nil | apply es_pure hT; iterate 4 exact rfl)
  (apply es_call; (iterate 7 exact rfl); exact rules_w W _ 0 0 hb0 (.inl rfl); rintro _ _ ⟨A1, c1, A2, c2, rfl, rfl⟩)
  repeat' (first | apply aw_seq | apply aw_region | apply aw_ret | apply aw_skip | apply aw_exit | apply aw_block | apply es_nil | apply es_pure hT; iterate 4 exact rfl | apply es_skip; iterate 3 exact rfl | apply es_skip0; iterate 2 exact rfl | apply aw_condT; iterate 2 exact rfl | apply aw_condF; iterate 2 exact rfl)
  (apply es_call; (iterate 7 exact rfl); exact desk_NewW W _ 0 (.inl rfl) A1 A2 c1 c2 (by (repeat (first | exact mcs))) (by (repeat (first | exact mcs | apply mcm))); rintro _ _ ⟨x, b0, q0, rfl, rfl, f0⟩)
  repeat' (first | apply aw_seq | apply aw_region | apply es_nil | apply es_pure hT; iterate 4 exact rfl)
  (apply es_call; (iterate 7 exact rfl); exact FSpec.perm (d1 _ (x) b0 q0 f0) (by (try unfold deskTab); (repeat (first | exact List.Perm.refl _))); rintro _ _ ⟨y1, b1, q1, B1, e1, rfl, rfl, f1, v1⟩)
  repeat' (first | apply aw_seq | apply aw_region | apply aw_block | apply es_nil | apply es_pure hT; iterate 4 exact rfl | apply aw_condT; iterate 2 exact rfl | apply aw_condF; iterate 2 exact rfl)
  (apply es_buildSlice (cs := [.int .i64 0, .int .i64 2, .int .i64 95, .int .i64 10, .int .i64 0]) hT; (iterate 12 exact rfl); intro g1)
  repeat' (first | apply aw_seq | apply aw_region | apply aw_ret | apply aw_skip | apply aw_exit | apply aw_block | apply es_nil | apply es_pure hT; iterate 4 exact rfl | apply es_skip; iterate 3 exact rfl | apply es_skip0; iterate 2 exact rfl | apply aw_condT; iterate 2 exact rfl | apply aw_condF; iterate 2 exact rfl)
  (apply es_callQ; (iterate 7 exact rfl); exact ofL W _ g1 5 6 [0, 2, 95, 10, 0] (by (repeat (first | exact mcs))) rfl (Nat.le_of_ble_eq_true rfl))
  repeat' (first | apply aw_seq | apply aw_region | apply aw_ret | apply aw_skip | apply aw_exit | apply aw_block | apply es_nil | apply es_pure hT; iterate 4 exact rfl | apply es_skip; iterate 3 exact rfl | apply es_skip0; iterate 2 exact rfl | apply aw_condT; iterate 2 exact rfl | apply aw_condF; iterate 2 exact rfl)
  (apply es_call; (iterate 7 exact rfl); exact FSpec.perm (d2 _ (y1.at x.d) b1 q1 f1) (by (try unfold deskTab); (repeat (first | exact List.Perm.refl _ | (apply permC; · (repeat (first | exact sel0 | apply selS ))) | (apply permCA; · (repeat (first | exact pullA0 | apply pullAS )))))); rintro _ _ ⟨y2, b2, q2, B2, e2, rfl, rfl, f2, v2⟩)
  repeat' (first | apply aw_seq | apply aw_region | apply es_nil | apply es_pure hT; iterate 4 exact rfl)
  (apply es_buildSlice (cs := [.int .i64 1]) hT; (iterate 12 exact rfl); intro g2)
  repeat' (first | apply aw_seq | apply aw_region | apply aw_ret | apply aw_skip | apply aw_exit | apply aw_block | apply es_nil | apply es_pure hT; iterate 4 exact rfl | apply es_skip; iterate 3 exact rfl | apply es_skip0; iterate 2 exact rfl | apply aw_condT; iterate 2 exact rfl | apply aw_condF; iterate 2 exact rfl)
  (apply es_callQ; (iterate 7 exact rfl); exact ofL W _ g2 1 14 [1] (by (repeat (first | exact mcs))) rfl (Nat.le_of_ble_eq_true rfl))
  repeat' (first | apply aw_seq | apply aw_region | apply aw_ret | apply aw_skip | apply aw_exit | apply aw_block | apply es_nil | apply es_pure hT; iterate 4 exact rfl | apply es_skip; iterate 3 exact rfl | apply es_skip0; iterate 2 exact rfl | apply aw_condT; iterate 2 exact rfl | apply aw_condF; iterate 2 exact rfl)
  (apply es_call; (iterate 7 exact rfl); exact FSpec.perm (d3 _ (y2.at x.d) b2 q2 f2) (by (try unfold deskTab); (repeat (first | exact List.Perm.refl _ | (apply permC; · (repeat (first | exact sel0 | apply selS ))) | (apply permCA; · (repeat (first | exact pullA0 | apply pullAS )))))); rintro _ _ ⟨y3, b3, q3, B3, e3, rfl, rfl, f3, v3⟩)
  repeat' (first | apply aw_seq | apply aw_region | apply aw_ret | apply aw_skip | apply aw_exit | apply aw_block | apply es_nil | apply es_pure hT; iterate 4 exact rfl | apply es_skip; iterate 3 exact rfl | apply es_skip0; iterate 2 exact rfl | apply aw_condT; iterate 2 exact rfl | apply aw_condF; iterate 2 exact rfl)
  (apply es_callQ; (iterate 7 exact rfl); exact head23v W _ B3 e3 r3.2 h3 (v3.reads (by (repeat (first | exact mcs)))))
  repeat' (first | apply es_pure hT; iterate 4 exact rfl)
  (apply es_call; (iterate 7 exact rfl); exact desk_Trades0 W _ (y3.at x.d) r3.1 t3 (by (repeat (first | exact mcs | apply mcm))) (by (repeat (first | exact mcs | apply mcm))) (by (repeat (first | exact mcs | apply mcm))); rintro _ _ ⟨T1, u1, rfl, rfl⟩)
  repeat' (first | apply es_pure hT; iterate 4 exact rfl)
  (apply es_call; (iterate 7 exact rfl); exact known23 W _; rintro _ _ ⟨rfl, rfl⟩)
  repeat' (first | apply aw_ret | apply es_nil | apply es_pure hT; iterate 4 exact rfl)
  (apply ret1; exact rfl; exact ⟨[], dt_all, rfl⟩)
theorem look3_v : headV (doD false (storyD (wayD 0)).1 3 2 (msgOf 14 [1])).2 = 5 ∧ headV (doD false (doD false (storyD (wayD 0)).1 3 2 (msgOf 14 [1])).1 2 3 (msgOf 11 [1])).2 = 11 := by decide +kernel
set_option maxHeartbeats 8000000 in
theorem look3 (W : World) : FSpec Tryz.prog W 8 [.int .i64 3] [] (fun v _ => v = .bool true) := by
  refine FSpec.dropTo ?_
  obtain ⟨hD0, hO0⟩ := wayD_ok (w := 0) (.inl rfl)
  have hb0 : bitI .and .i64 0 3 = 0 := by decide +kernel
  have sk0 := story_ok hD0 hO0
  have d1 := fun G (x : DAd) b q f => story23 W G x (wayD 0) b q (0) hD0 hO0 (by omega) f
  have hD1 := sk0.1
  have hO1 := sk0.2
  have w2 : MsgW (msgOf 14 [1]) := by unfold MsgW inW msgOf; decide
  have d2 := fun G (x : DAd) b q f => desk_Do W G x (storyD (wayD 0)).1 b q (0 + 4) hD1 hO1 (by omega) f 3 2 _ w2
  have hD2 := hD1.do' (rf := false) 3 2 (msgOf 14 [1])
  have hO2 := hO1.do' (rf := false) hD1 3 2 (msgOf 14 [1])
  have w3 : MsgW (msgOf 11 [1]) := by unfold MsgW inW msgOf; decide
  have d3 := fun G (x : DAd) b q f => desk_Do W G x (doD false (storyD (wayD 0)).1 3 2 (msgOf 14 [1])).1 b q (0 + 4 + 1) hD2 hO2 (by omega) f 2 3 _ w3
  have hD3 := hD2.do' (rf := false) 2 3 (msgOf 11 [1])
  have hO3 := hO2.do' (rf := false) hD2 2 3 (msgOf 11 [1])
  obtain ⟨h2, h3⟩ := look3_v
  clear hD3 hO3 hD2 hO2 hD1 hO1 hD0 hO0
  generalize storyD (wayD 0) = r1 at *
  generalize doD false r1.1 3 2 (msgOf 14 [1]) = r2 at *
  generalize doD false r2.1 2 3 (msgOf 11 [1]) = r3 at *
  refine spec_body Tryz.func8 rfl rfl Tryz.results8 Tryz.ntmps8 rfl rfl ?_
  repeat' (first | apply aw_seq | apply aw_region | apply es_nil | apply es_pure hT; iterate 4 exact rfl)
  (apply es_call; (iterate 7 exact rfl); exact rules_w W _ 0 0 hb0 (.inl rfl); rintro _ _ ⟨A1, c1, A2, c2, rfl, rfl⟩)
  repeat' (first | apply aw_seq | apply aw_region | apply aw_ret | apply aw_skip | apply aw_exit | apply aw_block | apply es_nil | apply es_pure hT; iterate 4 exact rfl | apply es_skip; iterate 3 exact rfl | apply es_skip0; iterate 2 exact rfl | apply aw_condT; iterate 2 exact rfl | apply aw_condF; iterate 2 exact rfl)
  (apply es_call; (iterate 7 exact rfl); exact desk_NewW W _ 0 (.inl rfl) A1 A2 c1 c2 (by (repeat (first | exact mcs))) (by (repeat (first | exact mcs | apply mcm))); rintro _ _ ⟨x, b0, q0, rfl, rfl, f0⟩)
  repeat' (first | apply aw_seq | apply aw_region | apply es_nil | apply es_pure hT; iterate 4 exact rfl)
  (apply es_call; (iterate 7 exact rfl); exact FSpec.perm (d1 _ (x) b0 q0 f0) (by (try unfold deskTab); (repeat (first | exact List.Perm.refl _))); rintro _ _ ⟨y1, b1, q1, B1, e1, rfl, rfl, f1, v1⟩)
  repeat' (first | apply aw_seq | apply aw_region | apply aw_block | apply es_nil | apply es_pure hT; iterate 4 exact rfl | apply aw_condT; iterate 2 exact rfl | apply aw_condF; iterate 2 exact rfl)
  (apply es_buildSlice (cs := [.int .i64 1]) hT; (iterate 12 exact rfl); intro g1)
  repeat' (first | apply aw_seq | apply aw_region | apply aw_ret | apply aw_skip | apply aw_exit | apply aw_block | apply es_nil | apply es_pure hT; iterate 4 exact rfl | apply es_skip; iterate 3 exact rfl | apply es_skip0; iterate 2 exact rfl | apply aw_condT; iterate 2 exact rfl | apply aw_condF; iterate 2 exact rfl)
  (apply es_callQ; (iterate 7 exact rfl); exact ofL W _ g1 1 14 [1] (by (repeat (first | exact mcs))) rfl (Nat.le_of_ble_eq_true rfl))
  repeat' (first | apply aw_seq | apply aw_region | apply aw_ret | apply aw_skip | apply aw_exit | apply aw_block | apply es_nil | apply es_pure hT; iterate 4 exact rfl | apply es_skip; iterate 3 exact rfl | apply es_skip0; iterate 2 exact rfl | apply aw_condT; iterate 2 exact rfl | apply aw_condF; iterate 2 exact rfl)
  (apply es_call; (iterate 7 exact rfl); exact FSpec.perm (d2 _ (y1.at x.d) b1 q1 f1) (by (try unfold deskTab); (repeat (first | exact List.Perm.refl _ | (apply permC; · (repeat (first | exact sel0 | apply selS ))) | (apply permCA; · (repeat (first | exact pullA0 | apply pullAS )))))); rintro _ _ ⟨y2, b2, q2, B2, e2, rfl, rfl, f2, v2⟩)
  repeat' (first | apply aw_seq | apply aw_region | apply aw_ret | apply aw_skip | apply aw_exit | apply aw_block | apply es_nil | apply es_pure hT; iterate 4 exact rfl | apply es_skip; iterate 3 exact rfl | apply es_skip0; iterate 2 exact rfl | apply aw_condT; iterate 2 exact rfl | apply aw_condF; iterate 2 exact rfl)
  (apply es_callQ; (iterate 7 exact rfl); exact head23v W _ B2 e2 r2.2 h2 (v2.reads (by (repeat (first | exact mcs)))))
  repeat' (first | apply es_pure hT; iterate 4 exact rfl)
  (apply es_buildSlice (cs := [.int .i64 1]) hT; (iterate 12 exact rfl); intro g2)
  repeat' (first | apply aw_seq | apply aw_region | apply aw_ret | apply aw_skip | apply aw_exit | apply aw_block | apply es_nil | apply es_pure hT; iterate 4 exact rfl | apply es_skip; iterate 3 exact rfl | apply es_skip0; iterate 2 exact rfl | apply aw_condT; iterate 2 exact rfl | apply aw_condF; iterate 2 exact rfl)
  (apply es_callQ; (iterate 7 exact rfl); exact ofL W _ g2 1 11 [1] (by (repeat (first | exact mcs))) rfl (Nat.le_of_ble_eq_true rfl))
  repeat' (first | apply aw_seq | apply aw_region | apply aw_ret | apply aw_skip | apply aw_exit | apply aw_block | apply es_nil | apply es_pure hT; iterate 4 exact rfl | apply es_skip; iterate 3 exact rfl | apply es_skip0; iterate 2 exact rfl | apply aw_condT; iterate 2 exact rfl | apply aw_condF; iterate 2 exact rfl)
  (apply es_call; (iterate 7 exact rfl); exact FSpec.perm (d3 _ (y2.at x.d) b2 q2 f2) (by (try unfold deskTab); (repeat (first | exact List.Perm.refl _ | (apply permC; · (repeat (first | exact sel0 | apply selS ))) | (apply permCA; · (repeat (first | exact pullA0 | apply pullAS )))))); rintro _ _ ⟨y3, b3, q3, B3, e3, rfl, rfl, f3, v3⟩)
  repeat' (first | apply aw_seq | apply aw_region | apply aw_ret | apply aw_skip | apply aw_exit | apply aw_block | apply es_nil | apply es_pure hT; iterate 4 exact rfl | apply es_skip; iterate 3 exact rfl | apply es_skip0; iterate 2 exact rfl | apply aw_condT; iterate 2 exact rfl | apply aw_condF; iterate 2 exact rfl)
  (apply es_callQ; (iterate 7 exact rfl); exact head23v W _ B3 e3 r3.2 h3 (v3.reads (by (repeat (first | exact mcs)))))
  repeat' (first | apply es_pure hT; iterate 4 exact rfl)
  (apply es_call; (iterate 7 exact rfl); exact known23 W _; rintro _ _ ⟨rfl, rfl⟩)
  repeat' (first | apply aw_ret | apply es_nil | apply es_pure hT; iterate 4 exact rfl)
  (apply ret1; exact rfl; exact ⟨[], dt_all, rfl⟩)
theorem look0_v : (doD false (storyD (wayD 0)).1 2 2 (msgOf 15 [1])).2.length = 2 ∧ (doD false (storyD (wayD 0)).1 2 2 (msgOf 15 [1])).2[(1 : Int).toNat]? = some (outM 0 25 [1, 1]) ∧ headV (doD false (doD false (storyD (wayD 0)).1 2 2 (msgOf 15 [1])).1 0 3 (msgOf 12 [1])).2 = 12 ∧ headV (doD false (doD false (doD false (storyD (wayD 0)).1 2 2 (msgOf 15 [1])).1 0 3 (msgOf 12 [1])).1 0 4 (msgOf 13 [1])).2 = 0 := by decide +kernel
set_option maxHeartbeats 8000000 in
theorem look0 (W : World) : FSpec Tryz.prog W 8 [.int .i64 0] [] (fun v _ => v = .bool true) := by
  refine FSpec.dropTo ?_
  obtain ⟨hD0, hO0⟩ := wayD_ok (w := 0) (.inl rfl)
  have hb0 : bitI .and .i64 0 3 = 0 := by decide +kernel
  have sk0 := story_ok hD0 hO0
  have d1 := fun G (x : DAd) b q f => story23 W G x (wayD 0) b q (0) hD0 hO0 (by omega) f
  have hD1 := sk0.1
  have hO1 := sk0.2
  have w2 : MsgW (msgOf 15 [1]) := by unfold MsgW inW msgOf; decide
  have d2 := fun G (x : DAd) b q f => desk_Do W G x (storyD (wayD 0)).1 b q (0 + 4) hD1 hO1 (by omega) f 2 2 _ w2
  have hD2 := hD1.do' (rf := false) 2 2 (msgOf 15 [1])
  have hO2 := hO1.do' (rf := false) hD1 2 2 (msgOf 15 [1])
  have w3 : MsgW (msgOf 12 [1]) := by unfold MsgW inW msgOf; decide
  have d3 := fun G (x : DAd) b q f => desk_Do W G x (doD false (storyD (wayD 0)).1 2 2 (msgOf 15 [1])).1 b q (0 + 4 + 1) hD2 hO2 (by omega) f 0 3 _ w3
  have hD3 := hD2.do' (rf := false) 0 3 (msgOf 12 [1])
  have hO3 := hO2.do' (rf := false) hD2 0 3 (msgOf 12 [1])
  have w4 : MsgW (msgOf 13 [1]) := by unfold MsgW inW msgOf; decide
  have d4 := fun G (x : DAd) b q f => desk_Do W G x (doD false (doD false (storyD (wayD 0)).1 2 2 (msgOf 15 [1])).1 0 3 (msgOf 12 [1])).1 b q (0 + 4 + 1 + 1) hD3 hO3 (by omega) f 0 4 _ w4
  have hD4 := hD3.do' (rf := false) 0 4 (msgOf 13 [1])
  have hO4 := hO3.do' (rf := false) hD3 0 4 (msgOf 13 [1])
  obtain ⟨l2, o2_1, h3, h4⟩ := look0_v
  clear hD4 hO4 hD3 hO3 hD2 hO2 hD1 hO1 hD0 hO0
  generalize storyD (wayD 0) = r1 at *
  generalize doD false r1.1 2 2 (msgOf 15 [1]) = r2 at *
  generalize doD false r2.1 0 3 (msgOf 12 [1]) = r3 at *
  generalize doD false r3.1 0 4 (msgOf 13 [1]) = r4 at *
  refine spec_body Tryz.func8 rfl rfl Tryz.results8 Tryz.ntmps8 rfl rfl ?_
  repeat' (first | apply aw_seq | apply aw_region | apply es_nil | apply es_pure hT; iterate 4 exact rfl)
  (apply es_call; (iterate 7 exact rfl); exact rules_w W _ 0 0 hb0 (.inl rfl); rintro _ _ ⟨A1, c1, A2, c2, rfl, rfl⟩)
  repeat' (first | apply aw_seq | apply aw_region | apply aw_ret | apply aw_skip | apply aw_exit | apply aw_block | apply es_nil | apply es_pure hT; iterate 4 exact rfl | apply es_skip; iterate 3 exact rfl | apply es_skip0; iterate 2 exact rfl | apply aw_condT; iterate 2 exact rfl | apply aw_condF; iterate 2 exact rfl)
  (apply es_call; (iterate 7 exact rfl); exact desk_NewW W _ 0 (.inl rfl) A1 A2 c1 c2 (by (repeat (first | exact mcs))) (by (repeat (first | exact mcs | apply mcm))); rintro _ _ ⟨x, b0, q0, rfl, rfl, f0⟩)
  repeat' (first | apply aw_seq | apply aw_region | apply es_nil | apply es_pure hT; iterate 4 exact rfl)
  (apply es_call; (iterate 7 exact rfl); exact FSpec.perm (d1 _ (x) b0 q0 f0) (by (try unfold deskTab); (repeat (first | exact List.Perm.refl _))); rintro _ _ ⟨y1, b1, q1, B1, e1, rfl, rfl, f1, v1⟩)
  repeat' (first | apply aw_seq | apply aw_region | apply aw_block | apply es_nil | apply es_pure hT; iterate 4 exact rfl | apply aw_condT; iterate 2 exact rfl)
  (apply es_buildSlice (cs := [.int .i64 1]) hT; (iterate 12 exact rfl); intro g1)
  repeat' (first | apply aw_seq | apply aw_region | apply aw_ret | apply aw_skip | apply aw_exit | apply aw_block | apply es_nil | apply es_pure hT; iterate 4 exact rfl | apply es_skip; iterate 3 exact rfl | apply es_skip0; iterate 2 exact rfl | apply aw_condT; iterate 2 exact rfl | apply aw_condF; iterate 2 exact rfl)
  (apply es_callQ; (iterate 7 exact rfl); exact ofL W _ g1 1 15 [1] (by (repeat (first | exact mcs))) rfl (Nat.le_of_ble_eq_true rfl))
  repeat' (first | apply aw_seq | apply aw_region | apply aw_ret | apply aw_skip | apply aw_exit | apply aw_block | apply es_nil | apply es_pure hT; iterate 4 exact rfl | apply es_skip; iterate 3 exact rfl | apply es_skip0; iterate 2 exact rfl | apply aw_condT; iterate 2 exact rfl | apply aw_condF; iterate 2 exact rfl)
  (apply es_call; (iterate 7 exact rfl); exact FSpec.perm (d2 _ (y1.at x.d) b1 q1 f1) (by (try unfold deskTab); (repeat (first | exact List.Perm.refl _ | (apply permC; · (repeat (first | exact sel0 | apply selS ))) | (apply permCA; · (repeat (first | exact pullA0 | apply pullAS )))))); rintro _ _ ⟨y2, b2, q2, B2, e2, rfl, rfl, f2, v2⟩)
  rw [l2] at v2 ⊢
  repeat' (first | apply aw_seq | apply es_nil | apply es_pure hT; iterate 4 exact rfl)
  (apply aw_draw [12] [] hmix; decide +kernel)
  repeat' (first | apply es_pure hT; iterate 4 exact rfl)
  (apply es_idx hT; (iterate 8 exact rfl); (iterate 2 omega); exact v2.some_ (by omega))
  repeat' (first | apply es_pure hT; iterate 4 exact rfl)
  (apply es_load; (iterate 5 exact rfl); exact ld_sub hT rfl rfl (v2.reads (by (repeat (first | exact mcs)))) OutR.enc_len (by first | rw [adr_add]; rfl) o2_1 (f := 1) (vs := (msgOf 25 [1, 1]).enc) (by decide) rfl rfl)
  repeat' (first | apply aw_seq | apply aw_region | apply aw_ret | apply aw_skip | apply aw_exit | apply aw_block | apply es_nil | apply es_pure hT; iterate 4 exact rfl | apply es_skip; iterate 3 exact rfl | apply es_skip0; iterate 2 exact rfl | apply aw_condT; iterate 2 exact rfl | apply aw_condF; iterate 2 exact rfl)
  (apply es_buildSlice (cs := [.int .i64 1, .int .i64 1]) hT; (iterate 12 exact rfl); intro g2)
  repeat' (first | apply aw_seq | apply aw_region | apply aw_ret | apply aw_skip | apply aw_exit | apply aw_block | apply es_nil | apply es_pure hT; iterate 4 exact rfl | apply es_skip; iterate 3 exact rfl | apply es_skip0; iterate 2 exact rfl | apply aw_condT; iterate 2 exact rfl | apply aw_condF; iterate 2 exact rfl)
  (apply es_callQ; (iterate 7 exact rfl); exact ofL W _ g2 2 25 [1, 1] (by (repeat (first | exact mcs))) rfl (Nat.le_of_ble_eq_true rfl))
  repeat' (first | apply aw_seq | apply aw_region | apply aw_ret | apply aw_skip | apply aw_exit | apply aw_block | apply es_nil | apply es_pure hT; iterate 4 exact rfl | apply es_skip; iterate 3 exact rfl | apply es_skip0; iterate 2 exact rfl | apply aw_condT; iterate 2 exact rfl | apply aw_condF; iterate 2 exact rfl)
  (apply es_eqT (n := 4) (hd := [45, 25]) (r := true) hT; (iterate 5 exact rfl); exact (eqMsg (msgOf 25 [1, 1]) (msgOf 25 [1, 1])).trans (by simp); decide; exact heldOM; exact sOKMsg.2)
  repeat' (first | apply es_pure hT; iterate 4 exact rfl)
  (apply es_buildSlice (cs := [.int .i64 1]) hT; (iterate 12 exact rfl); intro g3)
  repeat' (first | apply aw_seq | apply aw_region | apply aw_ret | apply aw_skip | apply aw_exit | apply aw_block | apply es_nil | apply es_pure hT; iterate 4 exact rfl | apply es_skip; iterate 3 exact rfl | apply es_skip0; iterate 2 exact rfl | apply aw_condT; iterate 2 exact rfl | apply aw_condF; iterate 2 exact rfl)
  (apply es_callQ; (iterate 7 exact rfl); exact ofL W _ g3 1 12 [1] (by (repeat (first | exact mcs))) rfl (Nat.le_of_ble_eq_true rfl))
  repeat' (first | apply aw_seq | apply aw_region | apply aw_ret | apply aw_skip | apply aw_exit | apply aw_block | apply es_nil | apply es_pure hT; iterate 4 exact rfl | apply es_skip; iterate 3 exact rfl | apply es_skip0; iterate 2 exact rfl | apply aw_condT; iterate 2 exact rfl | apply aw_condF; iterate 2 exact rfl)
  (apply es_call; (iterate 7 exact rfl); exact FSpec.perm (d3 _ (y2.at x.d) b2 q2 f2) (by (try unfold deskTab); (repeat (first | exact List.Perm.refl _ | (apply permC; · (repeat (first | exact sel0 | apply selS ))) | (apply permCA; · (repeat (first | exact pullA0 | apply pullAS )))))); rintro _ _ ⟨y3, b3, q3, B3, e3, rfl, rfl, f3, v3⟩)
  repeat' (first | apply aw_seq | apply aw_region | apply aw_ret | apply aw_skip | apply aw_exit | apply aw_block | apply es_nil | apply es_pure hT; iterate 4 exact rfl | apply es_skip; iterate 3 exact rfl | apply es_skip0; iterate 2 exact rfl | apply aw_condT; iterate 2 exact rfl | apply aw_condF; iterate 2 exact rfl)
  (apply es_callQ; (iterate 7 exact rfl); exact head23v W _ B3 e3 r3.2 h3 (v3.reads (by (repeat (first | exact mcs)))))
  repeat' (first | apply es_pure hT; iterate 4 exact rfl)
  (apply es_buildSlice (cs := [.int .i64 1]) hT; (iterate 12 exact rfl); intro g4)
  repeat' (first | apply aw_seq | apply aw_region | apply aw_ret | apply aw_skip | apply aw_exit | apply aw_block | apply es_nil | apply es_pure hT; iterate 4 exact rfl | apply es_skip; iterate 3 exact rfl | apply es_skip0; iterate 2 exact rfl | apply aw_condT; iterate 2 exact rfl | apply aw_condF; iterate 2 exact rfl)
  (apply es_callQ; (iterate 7 exact rfl); exact ofL W _ g4 1 13 [1] (by (repeat (first | exact mcs))) rfl (Nat.le_of_ble_eq_true rfl))
  repeat' (first | apply aw_seq | apply aw_region | apply aw_ret | apply aw_skip | apply aw_exit | apply aw_block | apply es_nil | apply es_pure hT; iterate 4 exact rfl | apply es_skip; iterate 3 exact rfl | apply es_skip0; iterate 2 exact rfl | apply aw_condT; iterate 2 exact rfl | apply aw_condF; iterate 2 exact rfl)
  (apply es_call; (iterate 7 exact rfl); exact FSpec.perm (d4 _ (y3.at x.d) b3 q3 f3) (by (try unfold deskTab); (repeat (first | exact List.Perm.refl _ | (apply permC; · (repeat (first | exact sel0 | apply selS ))) | (apply permCA; · (repeat (first | exact pullA0 | apply pullAS )))))); rintro _ _ ⟨y4, b4, q4, B4, e4, rfl, rfl, f4, v4⟩)
  repeat' (first | apply aw_seq | apply aw_region | apply aw_ret | apply aw_skip | apply aw_exit | apply aw_block | apply es_nil | apply es_pure hT; iterate 4 exact rfl | apply es_skip; iterate 3 exact rfl | apply es_skip0; iterate 2 exact rfl | apply aw_condT; iterate 2 exact rfl | apply aw_condF; iterate 2 exact rfl)
  (apply es_callQ; (iterate 7 exact rfl); exact head23v W _ B4 e4 r4.2 h4 (v4.reads (by (repeat (first | exact mcs)))))
  repeat' (first | apply es_pure hT; iterate 4 exact rfl)
  (apply es_call; (iterate 7 exact rfl); exact known23 W _; rintro _ _ ⟨rfl, rfl⟩)
  repeat' (first | apply aw_ret | apply es_nil | apply es_pure hT; iterate 4 exact rfl)
  (apply ret1; exact rfl; exact ⟨[], dt_all, rfl⟩)
theorem look1_v : (tickD false (tickD false (tickD false (storyD (wayD 0)).1).1).1).2.length = 1 ∧ (tickD false (tickD false (tickD false (storyD (wayD 0)).1).1).1).2[(0 : Int).toNat]? = some (outM 0 25 [1, 1]) ∧ headV (doD false (tickD false (tickD false (tickD false (storyD (wayD 0)).1).1).1).1 2 2 (msgOf 14 [1])).2 = 11 := by decide +kernel
set_option maxHeartbeats 8000000 in
theorem look1 (W : World) : FSpec Tryz.prog W 8 [.int .i64 1] [] (fun v _ => v = .bool true) := by
  refine FSpec.dropTo ?_
  obtain ⟨hD0, hO0⟩ := wayD_ok (w := 0) (.inl rfl)
  have hb0 : bitI .and .i64 0 3 = 0 := by decide +kernel
  have sk0 := story_ok hD0 hO0
  have d1 := fun G (x : DAd) b q f => story23 W G x (wayD 0) b q (0) hD0 hO0 (by omega) f
  have hD1 := sk0.1
  have hO1 := sk0.2
  have d2 := fun G (x : DAd) b q f => desk_Tick W G x (storyD (wayD 0)).1 b q (0 + 4) hD1 (by omega) f
  have hD2 := hD1.tick (rf := false)
  have hO2 := hO1.tick (rf := false)
  have d3 := fun G (x : DAd) b q f => desk_Tick W G x (tickD false (storyD (wayD 0)).1).1 b q (0 + 4 + 1) hD2 (by omega) f
  have hD3 := hD2.tick (rf := false)
  have hO3 := hO2.tick (rf := false)
  have d4 := fun G (x : DAd) b q f => desk_Tick W G x (tickD false (tickD false (storyD (wayD 0)).1).1).1 b q (0 + 4 + 1 + 1) hD3 (by omega) f
  have hD4 := hD3.tick (rf := false)
  have hO4 := hO3.tick (rf := false)
  have w5 : MsgW (msgOf 14 [1]) := by unfold MsgW inW msgOf; decide
  have d5 := fun G (x : DAd) b q f => desk_Do W G x (tickD false (tickD false (tickD false (storyD (wayD 0)).1).1).1).1 b q (0 + 4 + 1 + 1 + 1) hD4 hO4 (by omega) f 2 2 _ w5
  have hD5 := hD4.do' (rf := false) 2 2 (msgOf 14 [1])
  have hO5 := hO4.do' (rf := false) hD4 2 2 (msgOf 14 [1])
  obtain ⟨l4, o4_0, h5⟩ := look1_v
  clear hD5 hO5 hD4 hO4 hD3 hO3 hD2 hO2 hD1 hO1 hD0 hO0
  generalize storyD (wayD 0) = r1 at *
  generalize tickD false r1.1 = r2 at *
  generalize tickD false r2.1 = r3 at *
  generalize tickD false r3.1 = r4 at *
  generalize doD false r4.1 2 2 (msgOf 14 [1]) = r5 at *
  refine spec_body Tryz.func8 rfl rfl Tryz.results8 Tryz.ntmps8 rfl rfl ?_
  repeat' (first | apply aw_seq | apply aw_region | apply es_nil | apply es_pure hT; iterate 4 exact rfl)
  (apply es_call; (iterate 7 exact rfl); exact rules_w W _ 0 0 hb0 (.inl rfl); rintro _ _ ⟨A1, c1, A2, c2, rfl, rfl⟩)
  repeat' (first | apply aw_seq | apply aw_region | apply aw_ret | apply aw_skip | apply aw_exit | apply aw_block | apply es_nil | apply es_pure hT; iterate 4 exact rfl | apply es_skip; iterate 3 exact rfl | apply es_skip0; iterate 2 exact rfl | apply aw_condT; iterate 2 exact rfl | apply aw_condF; iterate 2 exact rfl)
  (apply es_call; (iterate 7 exact rfl); exact desk_NewW W _ 0 (.inl rfl) A1 A2 c1 c2 (by (repeat (first | exact mcs))) (by (repeat (first | exact mcs | apply mcm))); rintro _ _ ⟨x, b0, q0, rfl, rfl, f0⟩)
  repeat' (first | apply aw_seq | apply aw_region | apply es_nil | apply es_pure hT; iterate 4 exact rfl)
  (apply es_call; (iterate 7 exact rfl); exact FSpec.perm (d1 _ (x) b0 q0 f0) (by (try unfold deskTab); (repeat (first | exact List.Perm.refl _))); rintro _ _ ⟨y1, b1, q1, B1, e1, rfl, rfl, f1, v1⟩)
  repeat' (first | apply aw_seq | apply aw_region | apply aw_block | apply es_nil | apply es_pure hT; iterate 4 exact rfl | apply aw_condT; iterate 2 exact rfl | apply aw_condF; iterate 2 exact rfl)
  (apply es_call; (iterate 7 exact rfl); exact FSpec.perm (d2 _ (y1.at x.d) b1 q1 f1) (by (try unfold deskTab); (repeat (first | exact List.Perm.refl _ | (apply permC; · (repeat (first | exact sel0 | apply selS ))) | (apply permCA; · (repeat (first | exact pullA0 | apply pullAS )))))); rintro _ _ ⟨y2, b2, q2, B2, e2, rfl, rfl, f2, v2⟩)
  repeat' (first | apply aw_seq | apply aw_region | apply es_nil | apply es_pure hT; iterate 4 exact rfl)
  (apply es_call; (iterate 7 exact rfl); exact FSpec.perm (d3 _ (y2.at x.d) b2 q2 f2) (by (try unfold deskTab); (repeat (first | exact List.Perm.refl _ | (apply permC; · (repeat (first | exact sel0 | apply selS ))) | (apply permCA; · (repeat (first | exact pullA0 | apply pullAS )))))); rintro _ _ ⟨y3, b3, q3, B3, e3, rfl, rfl, f3, v3⟩)
  repeat' (first | apply aw_seq | apply aw_region | apply es_nil | apply es_pure hT; iterate 4 exact rfl)
  (apply es_call; (iterate 7 exact rfl); exact FSpec.perm (d4 _ (y3.at x.d) b3 q3 f3) (by (try unfold deskTab); (repeat (first | exact List.Perm.refl _ | (apply permC; · (repeat (first | exact sel0 | apply selS ))) | (apply permCA; · (repeat (first | exact pullA0 | apply pullAS )))))); rintro _ _ ⟨y4, b4, q4, B4, e4, rfl, rfl, f4, v4⟩)
  rw [l4] at v4 ⊢
  repeat' (first | apply aw_seq | apply es_nil | apply es_pure hT; iterate 4 exact rfl)
  (apply aw_draw [12] [] hmix; decide +kernel)
  repeat' (first | apply es_pure hT; iterate 4 exact rfl)
  (apply es_idx hT; (iterate 8 exact rfl); (iterate 2 omega); exact v4.some_ (by omega))
  repeat' (first | apply es_pure hT; iterate 4 exact rfl)
  (apply es_load; (iterate 5 exact rfl); exact ld_sub hT rfl rfl (v4.reads (by (repeat (first | exact mcs)))) OutR.enc_len (by first | rw [adr_add]; rfl) o4_0 (f := 1) (vs := (msgOf 25 [1, 1]).enc) (by decide) rfl rfl)
  repeat' (first | apply aw_seq | apply aw_region | apply aw_ret | apply aw_skip | apply aw_exit | apply aw_block | apply es_nil | apply es_pure hT; iterate 4 exact rfl | apply es_skip; iterate 3 exact rfl | apply es_skip0; iterate 2 exact rfl | apply aw_condT; iterate 2 exact rfl | apply aw_condF; iterate 2 exact rfl)
  (apply es_buildSlice (cs := [.int .i64 1, .int .i64 1]) hT; (iterate 12 exact rfl); intro g1)
  repeat' (first | apply aw_seq | apply aw_region | apply aw_ret | apply aw_skip | apply aw_exit | apply aw_block | apply es_nil | apply es_pure hT; iterate 4 exact rfl | apply es_skip; iterate 3 exact rfl | apply es_skip0; iterate 2 exact rfl | apply aw_condT; iterate 2 exact rfl | apply aw_condF; iterate 2 exact rfl)
  (apply es_callQ; (iterate 7 exact rfl); exact ofL W _ g1 2 25 [1, 1] (by (repeat (first | exact mcs))) rfl (Nat.le_of_ble_eq_true rfl))
  repeat' (first | apply aw_seq | apply aw_region | apply aw_ret | apply aw_skip | apply aw_exit | apply aw_block | apply es_nil | apply es_pure hT; iterate 4 exact rfl | apply es_skip; iterate 3 exact rfl | apply es_skip0; iterate 2 exact rfl | apply aw_condT; iterate 2 exact rfl | apply aw_condF; iterate 2 exact rfl)
  (apply es_eqT (n := 4) (hd := [45, 25]) (r := true) hT; (iterate 5 exact rfl); exact (eqMsg (msgOf 25 [1, 1]) (msgOf 25 [1, 1])).trans (by simp); decide; exact heldOM; exact sOKMsg.2)
  repeat' (first | apply es_pure hT; iterate 4 exact rfl)
  (apply es_buildSlice (cs := [.int .i64 1]) hT; (iterate 12 exact rfl); intro g2)
  repeat' (first | apply aw_seq | apply aw_region | apply aw_ret | apply aw_skip | apply aw_exit | apply aw_block | apply es_nil | apply es_pure hT; iterate 4 exact rfl | apply es_skip; iterate 3 exact rfl | apply es_skip0; iterate 2 exact rfl | apply aw_condT; iterate 2 exact rfl | apply aw_condF; iterate 2 exact rfl)
  (apply es_callQ; (iterate 7 exact rfl); exact ofL W _ g2 1 14 [1] (by (repeat (first | exact mcs))) rfl (Nat.le_of_ble_eq_true rfl))
  repeat' (first | apply aw_seq | apply aw_region | apply aw_ret | apply aw_skip | apply aw_exit | apply aw_block | apply es_nil | apply es_pure hT; iterate 4 exact rfl | apply es_skip; iterate 3 exact rfl | apply es_skip0; iterate 2 exact rfl | apply aw_condT; iterate 2 exact rfl | apply aw_condF; iterate 2 exact rfl)
  (apply es_call; (iterate 7 exact rfl); exact FSpec.perm (d5 _ (y4.at x.d) b4 q4 f4) (by (try unfold deskTab); (repeat (first | exact List.Perm.refl _ | (apply permC; · (repeat (first | exact sel0 | apply selS ))) | (apply permCA; · (repeat (first | exact pullA0 | apply pullAS )))))); rintro _ _ ⟨y5, b5, q5, B5, e5, rfl, rfl, f5, v5⟩)
  repeat' (first | apply aw_seq | apply aw_region | apply aw_ret | apply aw_skip | apply aw_exit | apply aw_block | apply es_nil | apply es_pure hT; iterate 4 exact rfl | apply es_skip; iterate 3 exact rfl | apply es_skip0; iterate 2 exact rfl | apply aw_condT; iterate 2 exact rfl | apply aw_condF; iterate 2 exact rfl)
  (apply es_callQ; (iterate 7 exact rfl); exact head23v W _ B5 e5 r5.2 h5 (v5.reads (by (repeat (first | exact mcs)))))
  repeat' (first | apply es_pure hT; iterate 4 exact rfl)
  (apply es_call; (iterate 7 exact rfl); exact known23 W _; rintro _ _ ⟨rfl, rfl⟩)
  repeat' (first | apply aw_ret | apply es_nil | apply es_pure hT; iterate 4 exact rfl)
  (apply ret1; exact rfl; exact ⟨[], dt_all, rfl⟩)
set_option maxHeartbeats 8000000 in
theorem lookX (W : World) (way : Int) (h0 : ¬ way = 0) (h1 : ¬ way = 1) (h2 : ¬ way = 2) (h3 : ¬ way = 3) : FSpec Tryz.prog W 8 [.int .i64 way] [] (fun v _ => v = .bool true) := by
  refine FSpec.dropTo ?_
  obtain ⟨hD0, hO0⟩ := wayD_ok (w := 0) (.inl rfl)
  have hb0 : bitI .and .i64 0 3 = 0 := by decide +kernel
  have sk0 := story_ok hD0 hO0
  have d1 := fun G (x : DAd) b q f => story23 W G x (wayD 0) b q (0) hD0 hO0 (by omega) f
  have hD1 := sk0.1
  have hO1 := sk0.2
  clear hD1 hO1 hD0 hO0
  generalize storyD (wayD 0) = r1 at *
  refine spec_body Tryz.func8 rfl rfl Tryz.results8 Tryz.ntmps8 rfl rfl ?_
  repeat' (first | apply aw_seq | apply aw_region | apply es_nil | apply es_pure hT; iterate 4 exact rfl)
  (apply es_call; (iterate 7 exact rfl); exact rules_w W _ 0 0 hb0 (.inl rfl); rintro _ _ ⟨A1, c1, A2, c2, rfl, rfl⟩)
  repeat' (first | apply aw_seq | apply aw_region | apply aw_ret | apply aw_skip | apply aw_exit | apply aw_block | apply es_nil | apply es_pure hT; iterate 4 exact rfl | apply es_skip; iterate 3 exact rfl | apply es_skip0; iterate 2 exact rfl | apply aw_condT; iterate 2 exact rfl | apply aw_condF; iterate 2 exact rfl | (apply es_case; exact rfl; all_goals (intro hb; (try dsimp only at hb); (first | replace hb := odt hb | replace hb := odf hb | replace hb := eq_of_beq hb | replace hb := ne_of_beq_false hb); (try omega))) | (apply aw_cond; exact rfl; all_goals (intro hb; (try dsimp only at hb); (first | replace hb := odt hb | replace hb := odf hb | replace hb := eq_of_beq hb | replace hb := ne_of_beq_false hb); (try omega))))
  (apply es_call; (iterate 7 exact rfl); exact desk_NewW W _ 0 (.inl rfl) A1 A2 c1 c2 (by (repeat (first | exact mcs))) (by (repeat (first | exact mcs | apply mcm))); rintro _ _ ⟨x, b0, q0, rfl, rfl, f0⟩)
  repeat' (first | apply aw_seq | apply aw_region | apply es_nil | apply es_pure hT; iterate 4 exact rfl)
  (apply es_call; (iterate 7 exact rfl); exact FSpec.perm (d1 _ (x) b0 q0 f0) (by (try unfold deskTab); (repeat (first | exact List.Perm.refl _))); rintro _ _ ⟨y1, b1, q1, B1, e1, rfl, rfl, f1, v1⟩)
  repeat' (first | apply aw_seq | apply aw_region | apply aw_ret | apply aw_skip | apply aw_block | apply es_nil | apply es_pure hT; iterate 4 exact rfl | (apply aw_cond; exact rfl; all_goals (intro hb; (try dsimp only at hb); (first | replace hb := odt hb | replace hb := odf hb ); (try omega))))
  (apply ret1; exact rfl; exact ⟨[], dt_all, rfl⟩)
theorem law_Look (W : World) (way : Int) : FSpec Tryz.prog W 8 [.int .i64 way] [] (fun v _ => v = .bool true) := by
  by_cases h0 : way = 0
  · subst h0; exact look0 W
  by_cases h1 : way = 1
  · subst h1; exact look1 W
  by_cases h2 : way = 2
  · subst h2; exact look2 W
  by_cases h3 : way = 3
  · subst h3; exact look3 W
  exact lookX W way h0 h1 h2 h3
end Go.Proofs.YtakilgkpfjhfdaaGreat

namespace Go.Proofs.YtakilgkpfjhfdaaGreat
namespace deskLook
open Go Go.Sl Go.ChangeShapes Go.WideShapes Go.ChangeAt Go.RowKit
theorem own : ownKnob Tryz.prog.godebug = none := by kernel_rfl
theorem laidOut : laidOutB Tryz.prog = true := by kernel_rfl
set_option maxRecDepth 100000 in
theorem lifted (os : Os) (started : os.Started) (H : Type) (enc : TypeId × Value → H) :
    ReturnsInHanded {} Tryz.checked os 8 .any (Rows.deskLookSpec.pre6 enc Tryz.prog Tryz.f8 Rows.deskLookRow.domain false) (Rows.deskLookSpec.post enc Tryz.prog Tryz.f8 false true false false) := by
  refine returnsInHanded_of_change (C := Tryz.checked) own started (by kernel_rfl) Tryz.func8
    (ChangeSpec.witness6 (enc := enc) (C := Tryz.checked) false ⟨#[], #[.int .i64 0], []⟩ 8 (by kernel_rfl) (by kernel_rfl) (by kernel_rfl) (by kernel_rfl)) ?_
  intro W base args ds gs before hval0 hW hcnd _
  have hval : ∀ (j : Nat) t v, Tryz.f8.params[j]? = some t → args[j]? = some v → Value.okWide Tryz.prog W .any base t v := hval0
  have hW' := hW
  obtain ⟨p, q, hA0, hV, rfl, hfz, hnd⟩ := hW
  have hA : DataW.TrodAll enc Tryz.prog W 0 (fun _ => true) true Tryz.f8.params.toList args.toList ds p := hA0
  obtain ⟨rfl, rfl⟩ := trodVars_none hV
  simp only [List.append_nil] at hW'
  have hA1 := hA
  rw [Tryz.params8] at hA1 hval
  obtain ⟨v0, vs0, d0, ds0, p0, q0, hargs, rfl, rfl, h0, r0⟩ := trodAll_cons hA1
  obtain ⟨rfl, rfl, rfl⟩ := trodAll_nil r0
  obtain rfl : args = #[v0] := by cases args; simp_all
  obtain ⟨a0, rfl, _, _, w0⟩ := open_int Tryz.underlying3 (hval 0 3 v0 rfl rfl) h0
  refine (FSpec.row (law_Look W a0) (fun _ _ h => h)).mono fun e W' ⟨he, hb⟩ => ?_
  subst he
  exact ⟨_, rfl, law_post hW' hA laidOut (by kernel_rfl) rfl rfl Tryz.underlying4 rfl rfl rfl hb⟩
theorem named : Tryz.prog.funcNamed Rows.deskLookRow.func = some 8 := by kernel_rfl
set_option maxRecDepth 100000 in
set_option maxHeartbeats 8000000 in
theorem closed : joinedFacts Tryz.prog 8 Tryz.f8 Rows.deskLookSpec Rows.deskLookRow = true := by
  unfold joinedFacts
  simp only [Bool.and_eq_true]
  repeat' apply And.intro
  all_goals decide +kernel
theorem inst : Tryz.f8.isInstance Tryz.prog Rows.deskLookRow.origin Rows.deskLookRow.targs := odt (by kernel_rfl)
theorem over : Rows.deskLookRow.holds Tryz.pinned (OpenSpec.ofChange Rows.deskLookSpec) :=
  OpenClaim.holds_of_wide 8 Tryz.f8 rfl rfl rfl rfl rfl rfl rfl ⟨rfl, rfl, rfl, rfl, rfl⟩ rfl rfl rfl rfl rfl named Tryz.func8 closed
    inst (by unfold Func.isWrapper; first | (rw [if_pos (by decide +kernel)]; kernel_rfl) | (rw [if_neg (by decide +kernel)]; exact ⟨rfl, rfl⟩))
    (fun os started H enc _ => lifted os started H enc)
end deskLook
theorem deskLook_holds : Rows.DeskLookSaid := deskLook.over
#print axioms deskLook_holds
end Go.Proofs.YtakilgkpfjhfdaaGreat

