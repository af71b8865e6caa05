/- slices.Insert of one thing at the element type Quote. Conditions stand in the statement. -/
import Derived.Test.YtmoglacdddinjaaCmp
import Derived.Laws.Externs
set_option linter.unusedSimpArgs false
set_option linter.unusedVariables false
namespace Go.Proofs.Ytmoglacdddinjaa
open Go Go.Sl
attribute [local irreducible] AW ES Ld RetQ
set_option maxRecDepth 100000

theorem overlapsQuote (W : World) (h : List Chunk) (gv g n c o m2 c2 : Nat) (vs cur : List Value) (hv : Chunk.own (some ⟨gv, 0, none⟩) 1 1 25 6 vs ∈ h) (hg : Chunk.blk g 25 cur ∈ h) (hne : gv ≠ g) (hcur : cur.length ≠ 0) :
    ∀ w, RepS W h w → (callFunc 86 [Value.slice (some ⟨gv, 0, none⟩) 1 1, .slice (some ⟨g, o, none⟩) m2 c2].toArray).run Try.prog w = .ok (.value (.bool false)) w := fun w hw => by
  have h1 := hw.heap_blk hg
  have h2 := (hw.holds _ hv).1
  rcases h2.2 with ⟨hx, _⟩ | ⟨g', cap, cv, hx, _, hgv, _⟩
  · cases hx
  · injection hx with hA _ _
    injection hA with hA
    injection hA with hA _ _
    subst hA
    have hz : ∀ w, (Go.sizeOf 25).run Try.prog w = .ok 6 w := fun w => (hT _ _ (rfl : TT.lookup 25 = some ti25)).sz w
    rw [run_callFunc_extern Try.func86 (by kernel_rfl) (by kernel_rfl) (by kernel_rfl) (e := Extern.SlicesOverlaps.overlaps #[29, 29] #[4]) (by kernel_rfl)]
    have := Lib.run_overlaps_apart (P := Try.prog) w 29 4 25 Try.underlying29 6 hz ⟨gv, 0, none⟩ ⟨g, o, none⟩ 1 1 m2 c2 hne 25 25 cv.size cur.length (by simp [World.shape?, hgv]) (by simp [World.shape?, h1]) hcur (by simp [World.frozen?, hgv]) (by simp [World.frozen?, hgv])
    rw [this]
    rfl

theorem insertQuote (W : World) (F : List Chunk) (A : Option Addr) (n c : Nat) (i : Int) (cs : List Value) (gv : Nat) (vs : List Value) (hv : Chunk.own (some ⟨gv, 0, none⟩) 1 1 25 6 vs ∈ F) (h0 : 0 ≤ i) (hin : i ≤ n) (hb : (n + 1) * 48 ≤ 140737488355328) :
    FSpec Try.prog W 60 [.slice A n c, .int .i64 i, .slice (some ⟨gv, 0, none⟩) 1 1] (.own A n c 25 6 cs :: F)
      (fun v h' => ∃ A' c', v = .slice A' (n + 1) c' ∧ h' = .own A' (n + 1) c' 25 6 (cs.take (i.toNat * 6) ++ vs ++ cs.drop (i.toNat * 6)) :: F) := by
  obtain ⟨i, rfl⟩ := Int.eq_ofNat_of_zero_le h0
  simp only [Int.toNat_natCast]
  refine FSpec.drop ?_
  refine spec_body Try.func60 rfl rfl Try.results60 Try.ntmps60 rfl rfl ?_
  refine aw_fact mem0 (fun hl hnc hcc hsome hnone hone => ?_)
  refine aw_fact (List.mem_cons_of_mem _ hv) (fun hvl _ _ _ _ hvone => ?_)
  have hvl : vs.length = 6 := by simpa using hvl
  have hrvG : ∀ c0, Reads W (c0 :: F) (some ⟨gv, 0, none⟩) 1 6 vs := fun c0 => Reads.own (List.mem_cons_of_mem _ hv) (by simpa using hvl) hvone
  have hrv := hrvG (.own A n c 25 6 cs)
  have hmin1 : ∀ m, 0 < m → Nat.min 1 m = 1 := fun m hm => by show min 1 m = 1; omega
  have hrs : Reads W (.own A n c 25 6 cs :: F) A n 6 cs := Reads.own mem0 hl hone
  by_cases hi : i = n
  · subst hi
    have he : ((i : Int) == (i : Int)) = true := by simp
    repeat' (first
      | apply aw_seq | apply aw_region | apply aw_ret | apply aw_skip | apply aw_exit | apply aw_block | apply es_nil
      | (apply es_pure hT; (iterate 4 exact rfl)) | (apply es_skip; (iterate 3 exact rfl)) | (apply es_skip0; (iterate 2 exact rfl))
      | (apply es_i64 hT; (iterate 4 exact rfl); (iterate 2 omega))
      | (apply aw_draw [] [] hmix; decide +kernel)
      | (apply es_sliceFrom hT; (iterate 8 exact rfl); (iterate 3 omega); exact rfl)
      | (apply aw_condT; exact rfl; exact he)
      | (apply es_append hT; (iterate 10 exact rfl); exact sel0; exact hrv; omega; (show (i + 1) * 48 ≤ _; omega); intro A' c')
      | (apply es_load; (iterate 5 exact rfl); first | exact ld_blk hT rfl rfl mem0 rfl rfl | exact ld_all hT rfl rfl mem0 rfl)
      | (apply es_load; (iterate 5 exact rfl); first | exact ld_blk hT rfl rfl mem1 rfl rfl | exact ld_all hT rfl rfl mem1 rfl)
      | (apply es_load; (iterate 5 exact rfl); first | exact ld_blk hT rfl rfl mem2 rfl rfl | exact ld_all hT rfl rfl mem2 rfl)
      | (apply es_box; (iterate 5 exact rfl); intro _) | (apply es_alloc hT; (iterate 5 exact rfl); intro _)
      | (apply aw_condT; (iterate 2 exact rfl)) | (apply aw_condF; (iterate 2 exact rfl))
      | (apply es_case; exact rfl; all_goals intro hb; all_goals (try simp only [hb]); all_goals (first | replace hb := of_decide_eq_true hb | replace hb := of_decide_eq_false hb | replace hb := bne_t hb | replace hb := bne_f hb | skip); all_goals (try (exfalso; omega)))
      | (apply aw_cond; exact rfl; all_goals intro hb; all_goals (try simp only [hb]); all_goals (first | replace hb := of_decide_eq_true hb | replace hb := of_decide_eq_false hb | replace hb := bne_t hb | replace hb := bne_f hb | skip); all_goals (try (exfalso; omega))))
    apply ret1; exact rfl
    refine ⟨[], _, List.Perm.refl _, A', c', rfl, ?_⟩
    show Chunk.own A' (i + 1) c' 25 6 (cs ++ vs) :: F = _
    rw [List.take_of_length_le (by omega), List.drop_of_length_le (by omega), List.append_nil]
  · have hlt : i < n := by omega
    have he : ((i : Int) == (n : Int)) = false := by simp; omega
    obtain ⟨g, rfl⟩ := hsome (by omega)
    by_cases hroom : n + 1 ≤ c
    · -- in place
      refine aw_conv (fun w hw => ?_)
      have hnd := hw.nodup
      have hgv : gv ≠ g := by
        intro e
        simp only [List.flatMap_cons, List.nodup_append] at hnd
        exact hnd.2.2 g (by simp [Chunk.keys]) g (List.mem_flatMap.2 ⟨_, hv, by simp [Chunk.keys, e]⟩) rfl
      refine ⟨_, hw, ?_⟩
      refine aw_open sel0 (fun cur hcl htk _ _ _ _ => ?_)
      have hr0 : Reads W (.blk g 25 cur :: F) (some ⟨g, 0, none⟩) n 6 cs := Reads.blk mem0 (by simpa using htk) hl hone
      have hr1 := hr0.cut hnc (show i ≤ n by omega) (Nat.le_refl n)
      rw [List.take_of_length_le (by rw [List.length_drop, hl, Nat.sub_mul]; omega), cutA_ne (by omega)] at hr1
      have hdl : (cs.drop (i * 6)).length = (n - i) * 6 := hr1.len
      have hmin2 : Nat.min (n + 1 - i) (n + 1 - (i + 1)) = n - i := by show min (n + 1 - i) (n + 1 - (i + 1)) = n - i; omega
      have hov := overlapsQuote W (.blk g 25 cur :: F) gv g n c ((i + 1) * 6) (n + 1 - (i + 1)) (c - (i + 1)) vs cur (List.mem_cons_of_mem _ hv) mem0 hgv (by omega)
      refine aw_post (Q' := RetQ Try.prog W #[ResultVar.tmp 6].toList (fun v h' => v = .slice (some ⟨g, 0, none⟩) (n + 1) c ∧ h' = .blk g 25 (lay (lay cur (i * 6 + vs.length) (cs.drop (i * 6))) (i * 6) vs) :: F)) (retq_conv ?_) ?_
      · rintro v h' ⟨hv', rfl⟩ w hw
        have hb2 := lay_before (cur := cur) (v := vs) (S := cs.drop (i * 6)) (a := i * 6) (by omega)
        rw [hb2] at hw
        have htk2 : cur.take (i * 6) = cs.take (i * 6) := by rw [← htk, List.take_take, Nat.min_eq_left (by omega)]
        have hone2 : ∀ u ∈ cs.take (i * 6) ++ vs ++ cs.drop (i * 6), u.oneCell' = true := fun u hu => by
          simp only [List.mem_append] at hu
          rcases hu with (hu | hu) | hu
          · exact hone u (List.mem_of_mem_take hu)
          · exact hvone u hu
          · exact hone u (List.mem_of_mem_drop hu)
        have hl2 : (cs.take (i * 6) ++ vs ++ cs.drop (i * 6)).length = (n + 1) * 6 := by simp only [List.length_append, List.length_take, hdl, hvl, hl]; omega
        refine ⟨_, hw.shut_ (n := n + 1) (c := c) (k := 6) ?_ ?_ hl2 hroom hcc hone2, [], _, List.Perm.refl _, some ⟨g, 0, none⟩, c, hv', rfl⟩
        · simp only [List.length_append, List.length_take, List.length_drop, hvl, hcl, hl]; omega
        · rw [htk2, ← hl2, List.take_left]
      · repeat' (first
          | apply aw_seq | apply aw_region | apply aw_ret | apply aw_skip | apply aw_exit | apply aw_block | apply es_nil
          | (apply es_pure hT; (iterate 4 exact rfl)) | (apply es_skip; (iterate 3 exact rfl)) | (apply es_skip0; (iterate 2 exact rfl))
          | (apply es_i64 hT; (iterate 4 exact rfl); (iterate 2 omega))
          | (apply aw_draw [] [] hmix; decide +kernel)
          | (apply es_sliceFrom hT; (iterate 8 exact rfl); (iterate 3 omega); first | exact cutA_ne (by omega) | exact rfl)
          | (apply es_cap hT; (iterate 6 exact rfl))
          | (apply es_sliceTo hT; (iterate 8 exact rfl); (iterate 2 omega))
          | (apply aw_condF; exact rfl; exact he)
          | (apply es_extern; (iterate 6 exact rfl); exact hov)
          | (apply es_copyB hT (k := 6); (iterate 10 exact rfl); exact sel0; exact rfl; exact (show Reads W (.blk g 25 cur :: F) (some ⟨g, i * 6, none⟩) (Nat.min (n + 1 - i) (n + 1 - (i + 1))) 6 (cs.drop (i * 6)) from (by rw [hmin2]; exact hr1)); (show (i + 1) * 6 + (cs.drop (i * 6)).length ≤ cur.length; omega))
          | (apply es_copyB hT (k := 6); (iterate 10 exact rfl); exact sel0; exact rfl; exact (show Reads W _ (some ⟨gv, 0, none⟩) (Nat.min 1 (n + 1 - i)) 6 vs from (by rw [hmin1 _ (by omega)]; exact hrvG _)); (show i * 6 + vs.length ≤ (lay cur ((i + 1) * 6) (cs.drop (i * 6))).length; rw [lay_len (by omega)]; omega))
          | (apply es_load; (iterate 5 exact rfl); first | exact ld_blk hT rfl rfl mem0 rfl rfl | exact ld_all hT rfl rfl mem0 rfl)
          | (apply es_load; (iterate 5 exact rfl); first | exact ld_blk hT rfl rfl mem1 rfl rfl | exact ld_all hT rfl rfl mem1 rfl)
          | (apply es_load; (iterate 5 exact rfl); first | exact ld_blk hT rfl rfl mem2 rfl rfl | exact ld_all hT rfl rfl mem2 rfl)
          | (apply es_box; (iterate 5 exact rfl); intro _) | (apply es_alloc hT; (iterate 5 exact rfl); intro _)
          | (apply aw_condT; (iterate 2 exact rfl)) | (apply aw_condF; (iterate 2 exact rfl))
          | (apply es_case; exact rfl; all_goals intro hb; all_goals (try simp only [hb]); all_goals (first | replace hb := of_decide_eq_true hb | replace hb := of_decide_eq_false hb | replace hb := bne_t hb | replace hb := bne_f hb | skip); all_goals (try (exfalso; omega)))
          | (apply aw_cond; exact rfl; all_goals intro hb; all_goals (try simp only [hb]); all_goals (first | replace hb := of_decide_eq_true hb | replace hb := of_decide_eq_false hb | replace hb := bne_t hb | replace hb := bne_f hb | skip); all_goals (try (exfalso; omega))))
        apply ret1; exact rfl
        refine ⟨rfl, ?_⟩
        show Chunk.blk g 25 (lay (lay cur ((i + 1) * 6) (cs.drop (i * 6))) (i * 6) vs) :: F = _
        rw [hvl, ← Nat.succ_mul]
    · -- a new row
      have hz : (ti25.zero.cells.toList).length = 6 := rfl
      have hr1 : ∀ c0, Reads W (c0 :: .own (some ⟨g, 0, none⟩) n c 25 6 cs :: F) (some ⟨g, i * 6, none⟩) (n - i) 6 (cs.drop (i * 6)) := fun c0 => by
        have := (Reads.own (W := W) (h := c0 :: .own (some ⟨g, 0, none⟩) n c 25 6 cs :: F) mem1 hl hone).cut hnc (show i ≤ n by omega) (Nat.le_refl n)
        rw [List.take_of_length_le (by rw [List.length_drop, hl, Nat.sub_mul]; omega), cutA_ne (by omega)] at this
        exact this
      have hdl : (cs.drop (i * 6)).length = (n - i) * 6 := (hr1 (.blk 0 0 [])).len
      have hmin3 : Nat.min (n - i) (i + (n + 1 - i) - (i + 1)) = n - i := by show min (n - i) (i + (n + 1 - i) - (i + 1)) = n - i; omega
      refine aw_post (Q' := RetQ Try.prog W #[ResultVar.tmp 6].toList (fun v h' => ∃ (g2 c2 : Nat) (cur : List Value), n + 1 ≤ c2 ∧ c2 ≤ 9223372036854775807 ∧ cur.length = c2 * 6 ∧ cur.take (i * 6) = cs.take (i * 6) ∧ v = .slice (some ⟨g2, 0, none⟩) (n + 1) c2 ∧
        h' = .blk g2 25 (lay (lay cur (i * 6) vs) (i * 6 + vs.length) (cs.drop (i * 6))) :: .own (some ⟨g, 0, none⟩) n c 25 6 cs :: F)) (retq_conv ?_) ?_
      · rintro v h' ⟨g2, c2, cur, k1, k2, k3, k4, hv', rfl⟩ w hw
        have ha2 := lay_after (cur := cur) (v := vs) (S := cs.drop (i * 6)) (a := i * 6) (by omega)
        rw [ha2, k4] at hw
        have hone2 : ∀ u ∈ cs.take (i * 6) ++ vs ++ cs.drop (i * 6), u.oneCell' = true := fun u hu => by
          simp only [List.mem_append] at hu
          rcases hu with (hu | hu) | hu
          · exact hone u (List.mem_of_mem_take hu)
          · exact hvone u hu
          · exact hone u (List.mem_of_mem_drop hu)
        have hl2 : (cs.take (i * 6) ++ vs ++ cs.drop (i * 6)).length = (n + 1) * 6 := by simp only [List.length_append, List.length_take, hdl, hvl, hl]; omega
        refine ⟨_, hw.shut_ (n := n + 1) (c := c2) (k := 6) ?_ ?_ hl2 k1 k2 hone2, [.own (some ⟨g, 0, none⟩) n c 25 6 cs], _, sel1, some ⟨g2, 0, none⟩, c2, hv', rfl⟩
        · simp only [List.length_append, List.length_take, List.length_drop, hvl, k3, hl]; omega
        · rw [← hl2, List.take_left]
      · repeat' (first
          | apply aw_seq | apply aw_region | apply aw_ret | apply aw_skip | apply aw_exit | apply aw_block | apply es_nil
          | (apply es_pure hT; (iterate 4 exact rfl)) | (apply es_skip; (iterate 3 exact rfl)) | (apply es_skip0; (iterate 2 exact rfl))
          | (apply es_i64 hT; (iterate 4 exact rfl); (iterate 2 omega))
          | (apply aw_draw [] [] hmix; decide +kernel)
          | (apply es_cap hT; (iterate 6 exact rfl))
          | (apply es_sliceTo hT; (iterate 8 exact rfl); (iterate 2 omega))
          | (apply es_sliceFrom hT; (iterate 8 exact rfl); (iterate 3 omega); first | exact cutA_ne (by omega) | exact rfl)
          | (apply aw_condF; exact rfl; exact he)
          | (apply es_appendZ hT (m := n + 1 - i); (iterate 12 exact rfl); omega; exact hrs.take (show i ≤ n by omega); omega; omega; omega; (show (i + (n + 1 - i)) * 48 ≤ _; omega); intro g2 c2 hc2)
          | (apply es_copyB hT (k := 6); (iterate 10 exact rfl); exact sel0; exact rfl; exact (show Reads W _ (some ⟨gv, 0, none⟩) (Nat.min 1 (i + (n + 1 - i) - i)) 6 vs from (by rw [hmin1 _ (by omega)]; exact (hrvG _).cons)); (show i * 6 + vs.length ≤ cur.length; omega))
          | (apply es_copyB hT (k := 6); (iterate 10 exact rfl); exact sel0; exact rfl; exact (show Reads W _ (some ⟨g, i * 6, none⟩) (Nat.min (n - i) (i + (n + 1 - i) - (i + 1))) 6 (cs.drop (i * 6)) from (by rw [hmin3]; exact hr1 _)); (show (i + 1) * 6 + (cs.drop (i * 6)).length ≤ (lay cur (i * 6) vs).length; rw [lay_len (by omega)]; omega))
          | (apply es_open rfl sel0; intro cur hcl htk hc3 hc4; replace hcl : cur.length = c2 * 6 := hcl)
          | (apply es_load; (iterate 5 exact rfl); first | exact ld_blk hT rfl rfl mem0 rfl rfl | exact ld_all hT rfl rfl mem0 rfl)
          | (apply es_load; (iterate 5 exact rfl); first | exact ld_blk hT rfl rfl mem1 rfl rfl | exact ld_all hT rfl rfl mem1 rfl)
          | (apply es_load; (iterate 5 exact rfl); first | exact ld_blk hT rfl rfl mem2 rfl rfl | exact ld_all hT rfl rfl mem2 rfl)
          | (apply es_box; (iterate 5 exact rfl); intro _) | (apply es_alloc hT; (iterate 5 exact rfl); intro _)
          | (apply aw_condT; (iterate 2 exact rfl)) | (apply aw_condF; (iterate 2 exact rfl))
          | (apply es_case; exact rfl; all_goals intro hb; all_goals (try simp only [hb]); all_goals (first | replace hb := of_decide_eq_true hb | replace hb := of_decide_eq_false hb | replace hb := bne_t hb | replace hb := bne_f hb | skip); all_goals (try (exfalso; omega)))
          | (apply aw_cond; exact rfl; all_goals intro hb; all_goals (try simp only [hb]); all_goals (first | replace hb := of_decide_eq_true hb | replace hb := of_decide_eq_false hb | replace hb := bne_t hb | replace hb := bne_f hb | skip); all_goals (try (exfalso; omega))))
        apply ret1; exact rfl
        refine ⟨g2, c2, cur, by omega, hc4, hcl, ?_, by show Value.slice (some ⟨g2, 0, none⟩) (i + (n + 1 - i)) c2 = _; rw [show i + (n + 1 - i) = n + 1 by omega], ?_⟩
        · have e1 : cur.take ((i + (n + 1 - i)) * 6) = cs.take (i * 6) ++ repZ ti25.zero.cells.toList (n + 1 - i) := htk
          have e2 := congrArg (List.take (i * 6)) e1
          rw [List.take_take, Nat.min_eq_left (by omega), List.take_append_of_le_length (by rw [List.length_take]; omega), List.take_take, Nat.min_self] at e2
          exact e2
        · show Chunk.blk g2 25 (lay (lay cur (i * 6) vs) ((i + 1) * 6) (cs.drop (i * 6))) :: _ = _
          rw [hvl, ← Nat.succ_mul]
end Go.Proofs.Ytmoglacdddinjaa
