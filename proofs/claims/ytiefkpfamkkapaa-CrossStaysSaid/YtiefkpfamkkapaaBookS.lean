/- What the statement BookSorts answers. Conditions stand in each statement. -/
import Derived.Test.YtiefkpfamkkapaaBookO
set_option linter.unusedSimpArgs false
set_option linter.unusedVariables false
namespace Go.Proofs.Ytiefkpfamkkapaa
open Go Go.Sl
attribute [local irreducible] AW ES EP Ld RetQ
set_option maxRecDepth 100000

theorem ref2_Is (W : World) (s : Int) : QSpec Try.prog W 25 [.int .i64 s] [] (.bool (isB s)) := by
  refine QSpec.ofD (fun h' hs => ?_)
  refine spec_body Try.func25 rfl rfl Try.results25 Try.ntmps25 rfl rfl ?_
  repeat' (first
    | apply aw_seq | apply aw_region | apply aw_ret | apply aw_skip | apply aw_exit | apply aw_block | apply es_nil
    | (apply es_pure hT; (iterate 4 exact rfl)) | (apply es_skip; (iterate 3 exact rfl)) | (apply es_skip0; (iterate 2 exact rfl))
    | (apply es_i64 hT; (iterate 4 exact rfl); (iterate 2 omega))
    | (apply aw_draw [] [] hmix; decide +kernel)
    | (apply es_load; (iterate 5 exact rfl); first | exact ld_blk hT rfl rfl mem0 rfl rfl | exact ld_all hT rfl rfl mem0 rfl)
    | (apply es_load; (iterate 5 exact rfl); first | exact ld_blk hT rfl rfl mem1 rfl rfl | exact ld_all hT rfl rfl mem1 rfl)
    | (apply es_load; (iterate 5 exact rfl); first | exact ld_blk hT rfl rfl mem2 rfl rfl | exact ld_all hT rfl rfl mem2 rfl)
    | (apply es_box; (iterate 5 exact rfl); intro _) | (apply es_alloc hT; (iterate 5 exact rfl); intro _)
    | (apply aw_condT; (iterate 2 exact rfl)) | (apply aw_condF; (iterate 2 exact rfl))
    | (apply es_case; exact rfl; all_goals intro hb; all_goals (try simp only [hb]); all_goals (first | replace hb := of_decide_eq_true hb | replace hb := of_decide_eq_false hb | replace hb := bne_t hb | replace hb := bne_f hb | skip); all_goals (try (exfalso; omega)))
    | (apply aw_cond; exact rfl; all_goals intro hb; all_goals (try simp only [hb]); all_goals (first | replace hb := of_decide_eq_true hb | replace hb := of_decide_eq_false hb | replace hb := bne_t hb | replace hb := bne_f hb | skip); all_goals (try (exfalso; omega))))
  all_goals
    apply ret1; exact rfl
    refine ⟨?_, dt_end⟩
    simp [isB, *]
theorem ref2_Better (W : World) (s a b : Int) : QSpec Try.prog W 29 [.int .i64 s, .int .i64 a, .int .i64 b] [] (.bool (betterB s a b)) := by
  refine QSpec.ofD (fun h' hs => ?_)
  refine spec_body Try.func29 rfl rfl Try.results29 Try.ntmps29 rfl rfl ?_
  repeat' (first
    | apply aw_seq | apply aw_region | apply aw_ret | apply aw_skip | apply aw_exit | apply aw_block | apply es_nil
    | (apply es_pure hT; (iterate 4 exact rfl)) | (apply es_skip; (iterate 3 exact rfl)) | (apply es_skip0; (iterate 2 exact rfl))
    | (apply es_i64 hT; (iterate 4 exact rfl); (iterate 2 omega))
    | (apply aw_draw [] [] hmix; decide +kernel)
    | (apply es_load; (iterate 5 exact rfl); first | exact ld_blk hT rfl rfl mem0 rfl rfl | exact ld_all hT rfl rfl mem0 rfl)
    | (apply es_load; (iterate 5 exact rfl); first | exact ld_blk hT rfl rfl mem1 rfl rfl | exact ld_all hT rfl rfl mem1 rfl)
    | (apply es_load; (iterate 5 exact rfl); first | exact ld_blk hT rfl rfl mem2 rfl rfl | exact ld_all hT rfl rfl mem2 rfl)
    | (apply es_box; (iterate 5 exact rfl); intro _) | (apply es_alloc hT; (iterate 5 exact rfl); intro _)
    | (apply aw_condT; (iterate 2 exact rfl)) | (apply aw_condF; (iterate 2 exact rfl))
    | (apply es_case; exact rfl; all_goals intro hb; all_goals (try simp only [hb]); all_goals (first | replace hb := of_decide_eq_true hb | replace hb := of_decide_eq_false hb | replace hb := bne_t hb | replace hb := bne_f hb | skip); all_goals (try (exfalso; omega)))
    | (apply aw_cond; exact rfl; all_goals intro hb; all_goals (try simp only [hb]); all_goals (first | replace hb := of_decide_eq_true hb | replace hb := of_decide_eq_false hb | replace hb := bne_t hb | replace hb := bne_f hb | skip); all_goals (try (exfalso; omega))))
  all_goals
    apply ret1; exact rfl
    refine ⟨?_, dt_end⟩
    simp [betterB, *]

section
variable {P : Program} {W : World} {T : Tab} {N : Nat} {env : Env} {h : List Chunk} {kf : KF} {ops : Array Oper} {K : Env → List Chunk → Prop} {rest : List Oper}
theorem es_lssF (hT : TabOK P T) {b : Bool} {k : IntKind} {m n : Int} {d : Tmp} {t yt : TypeId} {x y : Operand} {ty pos af g} (hg : evalG ops env g = some b) (hb : b = true) (hd : Nat.blt d N = true) (hx : evalE env x = some (.int k m)) (hy : evalE env y = some (.int k n)) (hn : ¬ m < n)
    (hK : ES P W N kf ops rest ((d, .bool false) :: env) h K) : ES P W N kf ops (⟨some d, .binOp .lss t x y yt, ty, pos, af, g⟩ :: rest) env h K :=
  es_pure hT hg hb hd (v := .bool (decide (m < n))) (by simp [evalPure, hx, hy, cmpV]) (by rw [decide_eq_false hn]; exact hK)
theorem es_gtrT (hT : TabOK P T) {b : Bool} {k : IntKind} {m n : Int} {d : Tmp} {t yt : TypeId} {x y : Operand} {ty pos af g} (hg : evalG ops env g = some b) (hb : b = true) (hd : Nat.blt d N = true) (hx : evalE env x = some (.int k m)) (hy : evalE env y = some (.int k n)) (hn : m > n)
    (hK : ES P W N kf ops rest ((d, .bool true) :: env) h K) : ES P W N kf ops (⟨some d, .binOp .gtr t x y yt, ty, pos, af, g⟩ :: rest) env h K :=
  es_pure hT hg hb hd (v := .bool (decide (m > n))) (by simp [evalPure, hx, hy, cmpV]) (by rw [decide_eq_true hn]; exact hK)
end
/-! ### sums, and levels by price -/
def sumL (o : List Order) : Int := (o.map Order.left).sum
def sumV (v : List Lvl) : Int := (v.map Lvl.qty).sum
theorem sum_append (a b : List Int) : (a ++ b).sum = a.sum + b.sum := by
  induction a with
  | nil => simp
  | cons x a ih => simp [ih]; omega
theorem sumL_append (a b : List Order) : sumL (a ++ b) = sumL a + sumL b := by simp [sumL, sum_append]
theorem sumV_append (a b : List Lvl) : sumV (a ++ b) = sumV a + sumV b := by simp [sumV, sum_append]
theorem sumL_perm {a b : List Order} (h : a.Perm b) : sumL a = sumL b := by
  induction h with
  | nil => rfl
  | cons x _ ih => simp [sumL] at ih ⊢; omega
  | swap x y l => simp [sumL]; omega
  | trans _ _ h1 h2 => omega
theorem sumV_add (v : List Lvl) (o : Order) : sumV (addLv v o) = sumV v + o.left := by
  rcases List.eq_nil_or_concat v with rfl | ⟨u, z, rfl⟩
  · simp [addLv, sumV]
  · unfold addLv
    simp only [List.getLast?_append, List.getLast?_singleton, Option.some_or, List.concat_eq_append]
    split
    · rw [sumV_append]
      simp [sumV, sum_append]; omega
    · rw [sumV_append]; simp [sumV]
theorem levels_sum (o : List Order) : sumV (levelsO o) = sumL o := by
  have key : ∀ (o : List Order) (v : List Lvl), sumV (o.foldl addLv v) = sumV v + sumL o := by
    intro o
    induction o with
    | nil => intro v; simp [sumL]
    | cons x o ih => intro v; rw [List.foldl_cons, ih, sumV_add]; simp [sumL]; omega
  have := key o []
  simpa [sumV, levelsO] using this
theorem betterB_tr {s a b c : Int} (h1 : betterB s a b = true) (h2 : betterB s b c = true) : betterB s a c = true := by
  unfold betterB at *
  simp at *
  omega
def okLv (s : Int) (v : List Lvl) (o : List Order) : Prop := v.Pairwise (fun a b => betterB s a.price b.price = true) ∧ ∀ u z, v = u ++ [z] → (∀ y ∈ u, ∀ x ∈ o, betterB s y.price x.price = true) ∧ ∀ x ∈ o, z.price = x.price ∨ betterB s z.price x.price = true
theorem okLv_fold {s : Int} : ∀ (o : List Order) (v : List Lvl), o.Pairwise (fun a b => a.price = b.price ∨ betterB s a.price b.price = true) → okLv s v o → (o.foldl addLv v).Pairwise (fun a b => betterB s a.price b.price = true)
  | [], v, _, h => h.1
  | x :: o, v, ho, h => by
    rw [List.foldl_cons]
    rw [List.pairwise_cons] at ho
    refine okLv_fold o (addLv v x) ho.2 ?_
    rcases List.eq_nil_or_concat v with rfl | ⟨u, z, rfl⟩
    · refine ⟨by simp [addLv], fun u z he => ?_⟩
      simp only [addLv, List.getLast?_nil] at he
      obtain ⟨hu, hz⟩ := List.append_inj' (s₁ := ([] : List Lvl)) (s₂ := u) (t₁ := [⟨x.price, x.left⟩]) (t₂ := [z]) he rfl
      subst hu
      simp at hz
      refine ⟨(fun y hy => by cases hy), fun x' hx' => ?_⟩
      have := ho.1 x' hx'
      rw [← hz]; exact this
    · rw [List.concat_eq_append] at h ⊢
      obtain ⟨h1, h2⟩ := h
      obtain ⟨k1, k2⟩ := h2 u z rfl
      have hadd : addLv (u ++ [z]) x = if z.price = x.price then u ++ [⟨z.price, z.qty + x.left⟩] else (u ++ [z]) ++ [⟨x.price, x.left⟩] := by
        unfold addLv
        simp
      rw [hadd]
      rw [List.pairwise_append] at h1
      by_cases hp : z.price = x.price
      · rw [if_pos hp]
        refine ⟨?_, fun u' z' he => ?_⟩
        · rw [List.pairwise_append]
          exact ⟨h1.1, by simp, fun a ha b hb => by rw [List.mem_singleton.1 hb]; exact h1.2.2 a ha z (by simp)⟩
        · obtain ⟨rfl, hz⟩ := List.append_inj' he rfl
          simp at hz
          subst hz
          exact ⟨fun y hy x' hx' => k1 y hy x' (List.mem_cons_of_mem _ hx'), fun x' hx' => k2 x' (List.mem_cons_of_mem _ hx')⟩
      · rw [if_neg hp]
        have hzx : betterB s z.price x.price = true := (k2 x List.mem_cons_self).resolve_left hp
        refine ⟨?_, fun u' z' he => ?_⟩
        · rw [List.pairwise_append]
          refine ⟨by rw [List.pairwise_append]; exact h1, by simp, fun a ha b hb => ?_⟩
          rw [List.mem_singleton.1 hb]
          rcases List.mem_append.1 ha with ha | ha
          · exact k1 a ha x List.mem_cons_self
          · rw [List.mem_singleton.1 ha]; exact hzx
        · obtain ⟨rfl, hz⟩ := List.append_inj' he rfl
          simp at hz
          subst hz
          refine ⟨fun y hy x' hx' => ?_, fun x' hx' => ho.1 x' hx'⟩
          rcases List.mem_append.1 hy with hy | hy
          · exact k1 y hy x' (List.mem_cons_of_mem _ hx')
          · rw [List.mem_singleton.1 hy]
            rcases ho.1 x' hx' with e | e
            · rw [← e]; exact hzx
            · exact betterB_tr hzx e
theorem levels_up {s : Int} {o : List Order} (h : o.Pairwise (fun a b => aheadS s a b = true)) : (levelsO o).Pairwise (fun a b => betterB s a.price b.price = true) := by
  refine okLv_fold o [] (h.imp (fun {a b} hab => ?_)) ⟨List.Pairwise.nil, fun u z he => by have := congrArg List.length he; simp at this⟩
  unfold aheadS at hab
  split at hab
  · left; assumption
  · right; exact hab

set_option maxHeartbeats 4000000 in
theorem book_Sorts (W : World) (A0 : Option Addr) (c0 : Nat) (ls : List Order) (s : Int) (hr0 : Reads W [] A0 ls.length 6 (ls.flatMap Order.enc)) :
    FSpec Try.prog W 3 [.slice A0 ls.length c0, .int .i64 s] [] (fun v _ => v = .bool true) := by
  refine spec_body Try.func3 rfl rfl Try.results3 Try.ntmps3 rfl rfl ?_
  refine aw_reads hr0 (by rfl) (fun hA0 => ?_)
  by_cases h1 : ls.length > 80
  · repeat' (first
      | apply aw_seq | apply aw_region | apply aw_ret | apply aw_skip | apply aw_exit | apply aw_block | apply es_nil
      | (apply es_pure hT; (iterate 4 exact rfl)) | (apply es_skip; (iterate 3 exact rfl)) | (apply es_skip0; (iterate 2 exact rfl))
      | (apply es_i64 hT; (iterate 4 exact rfl); (iterate 2 omega))
      | (apply aw_draw [] [] hmix; decide +kernel)
      | (apply es_load; (iterate 5 exact rfl); first | exact ld_blk hT rfl rfl mem0 rfl rfl | exact ld_all hT rfl rfl mem0 rfl)
      | (apply es_load; (iterate 5 exact rfl); first | exact ld_blk hT rfl rfl mem1 rfl rfl | exact ld_all hT rfl rfl mem1 rfl)
      | (apply es_load; (iterate 5 exact rfl); first | exact ld_blk hT rfl rfl mem2 rfl rfl | exact ld_all hT rfl rfl mem2 rfl)
      | (apply es_box; (iterate 5 exact rfl); intro _) | (apply es_alloc hT; (iterate 5 exact rfl); intro _)
      | (apply aw_condT; (iterate 2 exact rfl)) | (apply aw_condF; (iterate 2 exact rfl))
      | (apply es_case; exact rfl; all_goals intro hb; all_goals (try simp only [hb]); all_goals (first | replace hb := of_decide_eq_true hb | replace hb := of_decide_eq_false hb | replace hb := bne_t hb | replace hb := bne_f hb | skip); all_goals (try (exfalso; omega)))
      | (apply aw_cond; exact rfl; all_goals intro hb; all_goals (try simp only [hb]); all_goals (first | replace hb := of_decide_eq_true hb | replace hb := of_decide_eq_false hb | replace hb := bne_t hb | replace hb := bne_f hb | skip); all_goals (try (exfalso; omega))))
    apply ret1; exact rfl; exact rfl
  have his := ref2_Is W s
  cases hs : isB s
  · rw [hs] at his
    repeat' (first
      | apply aw_seq | apply aw_region | apply aw_ret | apply aw_skip | apply aw_exit | apply aw_block | apply es_nil
      | (apply es_pure hT; (iterate 4 exact rfl)) | (apply es_skip; (iterate 3 exact rfl)) | (apply es_skip0; (iterate 2 exact rfl))
      | (apply es_i64 hT; (iterate 4 exact rfl); (iterate 2 omega))
      | (apply aw_draw [] [] hmix; decide +kernel)
      | (apply es_callQ (hs := (his.mono (by simp))); (iterate 7 exact rfl))
      | (apply es_load; (iterate 5 exact rfl); first | exact ld_blk hT rfl rfl mem0 rfl rfl | exact ld_all hT rfl rfl mem0 rfl)
      | (apply es_load; (iterate 5 exact rfl); first | exact ld_blk hT rfl rfl mem1 rfl rfl | exact ld_all hT rfl rfl mem1 rfl)
      | (apply es_load; (iterate 5 exact rfl); first | exact ld_blk hT rfl rfl mem2 rfl rfl | exact ld_all hT rfl rfl mem2 rfl)
      | (apply es_box; (iterate 5 exact rfl); intro _) | (apply es_alloc hT; (iterate 5 exact rfl); intro _)
      | (apply aw_condT; (iterate 2 exact rfl)) | (apply aw_condF; (iterate 2 exact rfl))
      | (apply es_case; exact rfl; all_goals intro hb; all_goals (try simp only [hb]); all_goals (first | replace hb := of_decide_eq_true hb | replace hb := of_decide_eq_false hb | replace hb := bne_t hb | replace hb := bne_f hb | skip); all_goals (try (exfalso; omega)))
      | (apply aw_cond; exact rfl; all_goals intro hb; all_goals (try simp only [hb]); all_goals (first | replace hb := of_decide_eq_true hb | replace hb := of_decide_eq_false hb | replace hb := bne_t hb | replace hb := bne_f hb | skip); all_goals (try (exfalso; omega))))
    apply ret1; exact rfl; exact rfl
  rw [hs] at his
  repeat' (first
    | apply aw_seq | apply aw_region | apply aw_ret | apply aw_skip | apply aw_exit | apply aw_block | apply es_nil
    | (apply es_pure hT; (iterate 4 exact rfl)) | (apply es_skip; (iterate 3 exact rfl)) | (apply es_skip0; (iterate 2 exact rfl))
    | (apply es_i64 hT; (iterate 4 exact rfl); (iterate 2 omega))
    | (apply aw_draw [] [] hmix; decide +kernel)
    | (apply es_callQ (hs := (his.mono (by simp))); (iterate 7 exact rfl))
    | (apply es_call (hs := (book_New W _)); (iterate 7 exact rfl); rintro _ _ ⟨p, A, c, rfl, rfl⟩)
    | (apply es_load; (iterate 5 exact rfl); first | exact ld_blk hT rfl rfl mem0 rfl rfl | exact ld_all hT rfl rfl mem0 rfl)
    | (apply es_load; (iterate 5 exact rfl); first | exact ld_blk hT rfl rfl mem1 rfl rfl | exact ld_all hT rfl rfl mem1 rfl)
    | (apply es_load; (iterate 5 exact rfl); first | exact ld_blk hT rfl rfl mem2 rfl rfl | exact ld_all hT rfl rfl mem2 rfl)
    | (apply es_box; (iterate 5 exact rfl); intro _) | (apply es_alloc hT; (iterate 5 exact rfl); intro _)
    | (apply aw_condT; (iterate 2 exact rfl)) | (apply aw_condF; (iterate 2 exact rfl))
    | (apply es_case; exact rfl; all_goals intro hb; all_goals (try simp only [hb]); all_goals (first | replace hb := of_decide_eq_true hb | replace hb := of_decide_eq_false hb | replace hb := bne_t hb | replace hb := bne_f hb | skip); all_goals (try (exfalso; omega)))
    | (apply aw_cond; exact rfl; all_goals intro hb; all_goals (try simp only [hb]); all_goals (first | replace hb := of_decide_eq_true hb | replace hb := of_decide_eq_false hb | replace hb := bne_t hb | replace hb := bne_f hb | skip); all_goals (try (exfalso; omega))))
  refine aw_loop (α := Nat × List Order × Option Addr × Nat × Int) (E := fun x => [(0, .slice A0 ls.length c0), (1, .int .i64 s), (5, .pointer (some ⟨p, 0, none⟩)), (6, .int .i64 x.2.2.2.2), (7, .int .i64 x.1)]) (H := fun x => bookTab p x.2.2.1 x.2.2.2.1 x.2.1 []) (μ := fun x => ls.length - x.1)
    (S := fun x => x.1 ≤ ls.length ∧ BookB x.2.1 ∧ x.2.2.2.2 = sumL (x.2.1.filter (isSide s))) (0, [], A, c, 0) (J := []) ⟨Nat.zero_le _, BookB.nil, rfl⟩ ⟨rfl, rfl, rfl, rfl, rfl, trivial⟩ (List.Perm.refl _) ?_
  rintro ⟨k, l, A1, c1, sm⟩ ⟨hk, hB, hsm⟩
  dsimp only at hk hB hsm ⊢
  have hsb : ∀ m : List Order, (∀ o ∈ m, 1 ≤ o.left ∧ o.left ≤ 1000000) → 0 ≤ sumL m ∧ sumL m ≤ 1000000 * m.length := by
    intro m
    induction m with
    | nil => intro _; simp [sumL]
    | cons x m ih =>
      intro hm
      have h2 := ih (fun o ho => hm o (List.mem_cons_of_mem _ ho))
      have h3 := hm x List.mem_cons_self
      have e : sumL (x :: m) = x.left + sumL m := by simp [sumL]
      rw [e, List.length_cons]; omega
  have hfl := List.length_filter_le (isSide s) l
  have hfb := hsb (l.filter (isSide s)) (fun o ho => hB.left o (List.mem_filter.1 ho).1)
  have hbl := hB.len
  by_cases hlt : k < ls.length
  · obtain ⟨x, hx⟩ : ∃ x, ls[k]? = some x := ⟨ls[k]'(by omega), List.getElem?_eq_getElem (by omega)⟩
    have hx2 : ls[(k : Int).toNat]? = some x := by simpa using hx
    have hA := hA0 (by omega)
    have hd1 : decide ((k : Int) < (ls.length : Int)) = true := by simp; omega
    have hadd := book_Add W [] p A1 c1 l x hB.le
    have hB2 := hB.add x
    by_cases h0 : addOE x l = 0
    · have hL : addO x l = l ++ [x] := by simp [addO, h0]
      rw [h0] at hadd
      have hxl : 1 ≤ x.left ∧ x.left ≤ 1000000 := hB2.left x (by rw [hL]; simp)
      by_cases hxs : x.side = s
      · have hsum : sumL ((addO x l).filter (isSide s)) = sm + x.left := by
          rw [hL, List.filter_append, sumL_append, ← hsm]; simp [isSide, hxs, sumL]
        repeat' (first
          | apply aw_seq | apply aw_region | apply aw_ret | apply aw_skip | apply aw_exit | apply aw_block | apply es_nil
          | (apply es_pure hT; (iterate 4 exact rfl)) | (apply es_skip; (iterate 3 exact rfl)) | (apply es_skip0; (iterate 2 exact rfl))
          | (apply es_i64 hT; (iterate 4 exact rfl); (iterate 2 omega))
          | (apply aw_draw [] [] hmix; decide +kernel)
          | (apply es_idx hT; (iterate 8 exact rfl); (iterate 2 omega); exact hA)
          | (apply es_load; (iterate 5 exact rfl); first | exact ld_fld hT rfl rfl (hr0.mono (by simp)) Order.enc_len (adr_add _ _ _) hx2 (by decide) rfl | exact ld_elem hT rfl rfl (hr0.mono (by simp)) Order.enc_len rfl hx2 rfl)
          | (apply es_call (hs := hadd); (iterate 7 exact rfl); rintro _ _ ⟨rfl, A2, c2, rfl⟩)
          | (apply es_load; (iterate 5 exact rfl); first | exact ld_blk hT rfl rfl mem0 rfl rfl | exact ld_all hT rfl rfl mem0 rfl)
          | (apply es_load; (iterate 5 exact rfl); first | exact ld_blk hT rfl rfl mem1 rfl rfl | exact ld_all hT rfl rfl mem1 rfl)
          | (apply es_load; (iterate 5 exact rfl); first | exact ld_blk hT rfl rfl mem2 rfl rfl | exact ld_all hT rfl rfl mem2 rfl)
          | (apply es_box; (iterate 5 exact rfl); intro _) | (apply es_alloc hT; (iterate 5 exact rfl); intro _)
          | (apply aw_condT; (iterate 2 exact rfl)) | (apply aw_condF; (iterate 2 exact rfl))
          | (apply es_case; exact rfl; all_goals intro hb; all_goals (try simp only [hb]); all_goals (first | replace hb := of_decide_eq_true hb | replace hb := of_decide_eq_false hb | replace hb := bne_t hb | replace hb := bne_f hb | skip); all_goals (try (exfalso; omega)))
          | (apply aw_cond; exact rfl; all_goals intro hb; all_goals (try simp only [hb]); all_goals (first | replace hb := of_decide_eq_true hb | replace hb := of_decide_eq_false hb | replace hb := bne_t hb | replace hb := bne_f hb | skip); all_goals (try (exfalso; omega))))
        all_goals first
          | (exfalso; omega)
          | exact loopq_end (k + 1, addO x l, A2, c2, sm + x.left) (by dsimp only; omega) ⟨by dsimp only; omega, hB2, by dsimp only; rw [hsum]⟩ ⟨rfl, rfl, rfl, rfl, rfl, trivial⟩ dt_end
          | (exfalso; simp_all; done)
      · have hsum : sumL ((addO x l).filter (isSide s)) = sm := by
          rw [hL, List.filter_append, sumL_append, ← hsm]; simp [isSide, hxs, sumL]
        repeat' (first
          | apply aw_seq | apply aw_region | apply aw_ret | apply aw_skip | apply aw_exit | apply aw_block | apply es_nil
          | (apply es_pure hT; (iterate 4 exact rfl)) | (apply es_skip; (iterate 3 exact rfl)) | (apply es_skip0; (iterate 2 exact rfl))
          | (apply es_i64 hT; (iterate 4 exact rfl); (iterate 2 omega))
          | (apply aw_draw [] [] hmix; decide +kernel)
          | (apply es_idx hT; (iterate 8 exact rfl); (iterate 2 omega); exact hA)
          | (apply es_load; (iterate 5 exact rfl); first | exact ld_fld hT rfl rfl (hr0.mono (by simp)) Order.enc_len (adr_add _ _ _) hx2 (by decide) rfl | exact ld_elem hT rfl rfl (hr0.mono (by simp)) Order.enc_len rfl hx2 rfl)
          | (apply es_call (hs := hadd); (iterate 7 exact rfl); rintro _ _ ⟨rfl, A2, c2, rfl⟩)
          | (apply es_load; (iterate 5 exact rfl); first | exact ld_blk hT rfl rfl mem0 rfl rfl | exact ld_all hT rfl rfl mem0 rfl)
          | (apply es_load; (iterate 5 exact rfl); first | exact ld_blk hT rfl rfl mem1 rfl rfl | exact ld_all hT rfl rfl mem1 rfl)
          | (apply es_load; (iterate 5 exact rfl); first | exact ld_blk hT rfl rfl mem2 rfl rfl | exact ld_all hT rfl rfl mem2 rfl)
          | (apply es_box; (iterate 5 exact rfl); intro _) | (apply es_alloc hT; (iterate 5 exact rfl); intro _)
          | (apply aw_condT; (iterate 2 exact rfl)) | (apply aw_condF; (iterate 2 exact rfl))
          | (apply es_case; exact rfl; all_goals intro hb; all_goals (try simp only [hb]); all_goals (first | replace hb := of_decide_eq_true hb | replace hb := of_decide_eq_false hb | replace hb := bne_t hb | replace hb := bne_f hb | skip); all_goals (try (exfalso; omega)))
          | (apply aw_cond; exact rfl; all_goals intro hb; all_goals (try simp only [hb]); all_goals (first | replace hb := of_decide_eq_true hb | replace hb := of_decide_eq_false hb | replace hb := bne_t hb | replace hb := bne_f hb | skip); all_goals (try (exfalso; omega))))
        all_goals first
          | (exfalso; omega)
          | exact loopq_end (k + 1, addO x l, A2, c2, sm) (by dsimp only; omega) ⟨by dsimp only; omega, hB2, by dsimp only; rw [hsum]⟩ ⟨rfl, rfl, rfl, rfl, rfl, trivial⟩ dt_end
          | (exfalso; simp_all; done)
    · have hL : addO x l = l := by simp [addO, h0]
      rw [hL] at hadd
      generalize addOE x l = e at hadd h0
      repeat' (first
        | apply aw_seq | apply aw_region | apply aw_ret | apply aw_skip | apply aw_exit | apply aw_block | apply es_nil
        | (apply es_pure hT; (iterate 4 exact rfl)) | (apply es_skip; (iterate 3 exact rfl)) | (apply es_skip0; (iterate 2 exact rfl))
        | (apply es_i64 hT; (iterate 4 exact rfl); (iterate 2 omega))
        | (apply aw_draw [] [] hmix; decide +kernel)
        | (apply es_idx hT; (iterate 8 exact rfl); (iterate 2 omega); exact hA)
        | (apply es_load; (iterate 5 exact rfl); first | exact ld_fld hT rfl rfl (hr0.mono (by simp)) Order.enc_len (adr_add _ _ _) hx2 (by decide) rfl | exact ld_elem hT rfl rfl (hr0.mono (by simp)) Order.enc_len rfl hx2 rfl)
        | (apply es_call (hs := hadd); (iterate 7 exact rfl); rintro _ _ ⟨rfl, A2, c2, rfl⟩)
        | (apply es_load; (iterate 5 exact rfl); first | exact ld_blk hT rfl rfl mem0 rfl rfl | exact ld_all hT rfl rfl mem0 rfl)
        | (apply es_load; (iterate 5 exact rfl); first | exact ld_blk hT rfl rfl mem1 rfl rfl | exact ld_all hT rfl rfl mem1 rfl)
        | (apply es_load; (iterate 5 exact rfl); first | exact ld_blk hT rfl rfl mem2 rfl rfl | exact ld_all hT rfl rfl mem2 rfl)
        | (apply es_box; (iterate 5 exact rfl); intro _) | (apply es_alloc hT; (iterate 5 exact rfl); intro _)
        | (apply aw_condT; (iterate 2 exact rfl)) | (apply aw_condF; (iterate 2 exact rfl))
        | (apply es_case; exact rfl; all_goals intro hb; all_goals (try simp only [hb]); all_goals (first | replace hb := of_decide_eq_true hb | replace hb := of_decide_eq_false hb | replace hb := bne_t hb | replace hb := bne_f hb | skip); all_goals (try (exfalso; omega)))
        | (apply aw_cond; exact rfl; all_goals intro hb; all_goals (try simp only [hb]); all_goals (first | replace hb := of_decide_eq_true hb | replace hb := of_decide_eq_false hb | replace hb := bne_t hb | replace hb := bne_f hb | skip); all_goals (try (exfalso; omega))))
      all_goals first
        | (exfalso; omega)
        | exact loopq_end (k + 1, l, A2, c2, sm) (by dsimp only; omega) ⟨by dsimp only; omega, hB, hsm⟩ ⟨rfl, rfl, rfl, rfl, rfl, trivial⟩ dt_end
        | (exfalso; simp_all; done)
  · obtain rfl : k = ls.length := by omega
    have hd1 : decide ((ls.length : Int) < (ls.length : Int)) = false := by simp
    have hS := book_Side W (bookTab p A1 c1 l []) p A1 c1 l s mem0 mem1 hB.le hB.seq hB.side
    have hL := fun X => book_Levels W (X :: bookTab p A1 c1 l []) p A1 c1 l s mem1 mem2 hB.le hB.seq hB.side hB.left
    have hup := sideO_up hs hB.seq
    have hss : ∀ o ∈ sideO s l, o.side = s := fun o ho => (sideO_side ho).2
    have hlv := levels_up hup
    have hls := levels_sum (sideO s l)
    have hsl := sideO_len s l
    have hsame : sumL (sideO s l) = sm := by rw [hsm]; exact sumL_perm (sideO_perm s l)
    have hpos := levels_pos (o := sideO s l) (fun o ho => hB.left o (sideO_side ho).1) (by omega)
    have hvl : (levelsO (sideO s l)).length ≤ 64 := by
      have : ∀ (o : List Order) (v : List Lvl), (o.foldl addLv v).length ≤ v.length + o.length := by
        intro o
        induction o with
        | nil => intro v; simp
        | cons a o ih => intro v; rw [List.foldl_cons]; have := ih (addLv v a); have := addLv_len v a; simp; omega
      have := this (sideO s l) []
      unfold levelsO
      simp at this; omega
    rw [hsame] at hls
    generalize levelsO (sideO s l) = vm at hL hlv hls hpos hvl
    generalize sideO s l = o at hS hup hss hsl hsame hpos
    repeat' (first
      | apply aw_seq | apply aw_region | apply aw_ret | apply aw_skip | apply aw_exit | apply aw_block | apply es_nil
      | (apply es_pure hT; (iterate 4 exact rfl)) | (apply es_skip; (iterate 3 exact rfl)) | (apply es_skip0; (iterate 2 exact rfl))
      | (apply es_i64 hT; (iterate 4 exact rfl); (iterate 2 omega))
      | (apply aw_draw [] [] hmix; decide +kernel)
      | (apply es_call (hs := hS); (iterate 7 exact rfl); rintro _ _ ⟨AS, cS, rfl, rfl, hfS⟩)
      | (apply es_load; (iterate 5 exact rfl); first | exact ld_blk hT rfl rfl mem0 rfl rfl | exact ld_all hT rfl rfl mem0 rfl)
      | (apply es_load; (iterate 5 exact rfl); first | exact ld_blk hT rfl rfl mem1 rfl rfl | exact ld_all hT rfl rfl mem1 rfl)
      | (apply es_load; (iterate 5 exact rfl); first | exact ld_blk hT rfl rfl mem2 rfl rfl | exact ld_all hT rfl rfl mem2 rfl)
      | (apply es_box; (iterate 5 exact rfl); intro _) | (apply es_alloc hT; (iterate 5 exact rfl); intro _)
      | (apply aw_condT; (iterate 2 exact rfl)) | (apply aw_condF; (iterate 2 exact rfl))
      | (apply es_case; exact rfl; all_goals intro hb; all_goals (try simp only [hb]); all_goals (first | replace hb := of_decide_eq_true hb | replace hb := of_decide_eq_false hb | replace hb := bne_t hb | replace hb := bne_f hb | skip); all_goals (try (exfalso; omega)))
      | (apply aw_cond; exact rfl; all_goals intro hb; all_goals (try simp only [hb]); all_goals (first | replace hb := of_decide_eq_true hb | replace hb := of_decide_eq_false hb | replace hb := bne_t hb | replace hb := bne_f hb | skip); all_goals (try (exfalso; omega))))
    refine aw_loop (α := Nat) (E := fun i => [(1, .int .i64 s), (5, .pointer (some ⟨p, 0, none⟩)), (6, .int .i64 sm), (8, .slice AS o.length cS), (9, .int .i64 i)])
      (H := fun i => .own AS o.length cS 29 6 (o.flatMap Order.enc) :: bookTab p A1 c1 l []) (μ := fun i => o.length - i)
      (S := fun i => i ≤ o.length) 0 (J := []) (Nat.zero_le _) ⟨rfl, rfl, rfl, rfl, rfl, trivial⟩ (List.Perm.refl _) ?_
    intro i hi
    by_cases hil : i < o.length
    · obtain ⟨x, hx⟩ : ∃ x, o[i]? = some x := ⟨o[i]'(by omega), List.getElem?_eq_getElem (by omega)⟩
      have hx2 : o[(i : Int).toNat]? = some x := by simpa using hx
      have hAS := hfS.some_ (by omega)
      have hd2 : decide ((i : Int) < (o.length : Int)) = true := by simp; omega
      have hxs := hss x (List.mem_of_getElem? hx)
      by_cases hi0 : i = 0
      · subst hi0
        repeat' (first
          | apply aw_seq | apply aw_region | apply aw_ret | apply aw_skip | apply aw_exit | apply aw_block | apply es_nil
          | (apply es_pure hT; (iterate 4 exact rfl)) | (apply es_skip; (iterate 3 exact rfl)) | (apply es_skip0; (iterate 2 exact rfl))
          | (apply es_i64 hT; (iterate 4 exact rfl); (iterate 2 omega))
          | (apply aw_draw [29] [] hmix; decide +kernel)
          | (apply es_idx hT; (iterate 8 exact rfl); (iterate 2 omega); exact hAS)
          | (apply es_load; (iterate 5 exact rfl); exact ld_fld hT rfl rfl (hfS.reads mem0) Order.enc_len (adr_add _ _ _) hx2 (by decide) rfl)
          | (apply es_load; (iterate 5 exact rfl); first | exact ld_blk hT rfl rfl mem0 rfl rfl | exact ld_all hT rfl rfl mem0 rfl)
          | (apply es_load; (iterate 5 exact rfl); first | exact ld_blk hT rfl rfl mem1 rfl rfl | exact ld_all hT rfl rfl mem1 rfl)
          | (apply es_load; (iterate 5 exact rfl); first | exact ld_blk hT rfl rfl mem2 rfl rfl | exact ld_all hT rfl rfl mem2 rfl)
          | (apply es_box; (iterate 5 exact rfl); intro _) | (apply es_alloc hT; (iterate 5 exact rfl); intro _)
          | (apply aw_condT; (iterate 2 exact rfl)) | (apply aw_condF; (iterate 2 exact rfl))
          | (apply es_case; exact rfl; all_goals intro hb; all_goals (try simp only [hb]); all_goals (first | replace hb := of_decide_eq_true hb | replace hb := of_decide_eq_false hb | replace hb := bne_t hb | replace hb := bne_f hb | skip); all_goals (try (exfalso; omega)))
          | (apply aw_cond; exact rfl; all_goals intro hb; all_goals (try simp only [hb]); all_goals (first | replace hb := of_decide_eq_true hb | replace hb := of_decide_eq_false hb | replace hb := bne_t hb | replace hb := bne_f hb | skip); all_goals (try (exfalso; omega))))
        all_goals first
          | (exfalso; omega)
          | exact loopq_end 1 (by (try dsimp only); omega) (by (try dsimp only); omega) ⟨rfl, rfl, rfl, rfl, rfl, trivial⟩ dt_end
          | (exfalso; simp_all; done)
      · obtain ⟨y, hy⟩ : ∃ y, o[i - 1]? = some y := ⟨o[i - 1]'(by omega), List.getElem?_eq_getElem (by omega)⟩
        have hy2 : o[((i : Int) - 1).toNat]? = some y := by rw [show ((i : Int) - 1).toNat = i - 1 by omega]; exact hy
        have hyx : aheadS s y x = true := by
          obtain ⟨g1, e1⟩ := List.getElem?_eq_some_iff.1 hy
          obtain ⟨g2, e2⟩ := List.getElem?_eq_some_iff.1 hx
          have := List.pairwise_iff_getElem.1 hup (i - 1) i g1 g2 (by omega)
          rwa [e1, e2] at this
        have hnb : betterB s x.price y.price = false := by
          cases hh : betterB s x.price y.price
          · rfl
          · exfalso
            unfold aheadS at hyx
            split at hyx
            · rename_i e; unfold betterB at hh; simp at hh; omega
            · unfold betterB at hh hyx; simp at hh hyx; omega
        have hsq : x.price = y.price → y.seq < x.seq := fun e => by
          unfold aheadS at hyx
          rw [if_pos e.symm] at hyx
          simpa using hyx
        have hbt : ∀ h, QSpec Try.prog W 29 [.int .i64 s, .int .i64 x.price, .int .i64 y.price] h (.bool false) := fun h => ((ref2_Better W s x.price y.price).mono (by simp)).cast (by rw [hnb])
        have hd3 : decide ((i : Int) > 0) = true := by simp; omega
        repeat' (first
          | apply aw_seq | apply aw_region | apply aw_ret | apply aw_skip | apply aw_exit | apply aw_block | apply es_nil
          | (apply es_pure hT; (iterate 4 exact rfl)) | (apply es_skip; (iterate 3 exact rfl)) | (apply es_skip0; (iterate 2 exact rfl))
          | (apply es_i64 hT; (iterate 4 exact rfl); (iterate 2 omega))
          | (apply aw_draw [29] [] hmix; decide +kernel)
          | (apply es_idx hT; (iterate 8 exact rfl); (iterate 2 omega); exact hAS)
          | (apply es_load; (iterate 5 exact rfl); first | exact ld_fld hT rfl rfl (hfS.reads mem0) Order.enc_len (adr_add _ _ _) hx2 (by decide) rfl | exact ld_fld hT rfl rfl (hfS.reads mem0) Order.enc_len (adr_add _ _ _) hy2 (by decide) rfl)
          | (apply es_callQ (hs := (hbt _)); (iterate 7 exact rfl))
          | (apply es_load; (iterate 5 exact rfl); first | exact ld_blk hT rfl rfl mem0 rfl rfl | exact ld_all hT rfl rfl mem0 rfl)
          | (apply es_load; (iterate 5 exact rfl); first | exact ld_blk hT rfl rfl mem1 rfl rfl | exact ld_all hT rfl rfl mem1 rfl)
          | (apply es_load; (iterate 5 exact rfl); first | exact ld_blk hT rfl rfl mem2 rfl rfl | exact ld_all hT rfl rfl mem2 rfl)
          | (apply es_box; (iterate 5 exact rfl); intro _) | (apply es_alloc hT; (iterate 5 exact rfl); intro _)
          | (apply aw_condT; (iterate 2 exact rfl)) | (apply aw_condF; (iterate 2 exact rfl))
          | (apply es_case; exact rfl; all_goals intro hb; all_goals (try simp only [hb]); all_goals (first | replace hb := of_decide_eq_true hb | replace hb := of_decide_eq_false hb | replace hb := bne_t hb | replace hb := bne_f hb | skip); all_goals (try (exfalso; omega)))
          | (apply aw_cond; exact rfl; all_goals intro hb; all_goals (try simp only [hb]); all_goals (first | replace hb := of_decide_eq_true hb | replace hb := of_decide_eq_false hb | replace hb := bne_t hb | replace hb := bne_f hb | skip); all_goals (try (exfalso; omega))))
        all_goals first
          | (exfalso; omega)
          | exact loopq_end (i + 1) (by (try dsimp only); omega) (by (try dsimp only); omega) ⟨rfl, rfl, rfl, rfl, rfl, trivial⟩ dt_end
          | (exfalso; have := hsq ‹_›; omega)
          | (exfalso; simp_all; done)
    · obtain rfl : i = o.length := by omega
      have hd2 : decide ((o.length : Int) < (o.length : Int)) = false := by simp
      repeat' (first
        | apply aw_seq | apply aw_region | apply aw_ret | apply aw_skip | apply aw_exit | apply aw_block | apply es_nil
        | (apply es_pure hT; (iterate 4 exact rfl)) | (apply es_skip; (iterate 3 exact rfl)) | (apply es_skip0; (iterate 2 exact rfl))
        | (apply es_i64 hT; (iterate 4 exact rfl); (iterate 2 omega))
        | (apply aw_draw [] [] hmix; decide +kernel)
        | (apply es_call (hs := (hL _)); (iterate 7 exact rfl); rintro _ _ ⟨AL, cL, rfl, rfl, hfL⟩)
        | (apply es_load; (iterate 5 exact rfl); first | exact ld_blk hT rfl rfl mem0 rfl rfl | exact ld_all hT rfl rfl mem0 rfl)
        | (apply es_load; (iterate 5 exact rfl); first | exact ld_blk hT rfl rfl mem1 rfl rfl | exact ld_all hT rfl rfl mem1 rfl)
        | (apply es_load; (iterate 5 exact rfl); first | exact ld_blk hT rfl rfl mem2 rfl rfl | exact ld_all hT rfl rfl mem2 rfl)
        | (apply es_box; (iterate 5 exact rfl); intro _) | (apply es_alloc hT; (iterate 5 exact rfl); intro _)
        | (apply aw_condT; (iterate 2 exact rfl)) | (apply aw_condF; (iterate 2 exact rfl))
        | (apply es_case; exact rfl; all_goals intro hb; all_goals (try simp only [hb]); all_goals (first | replace hb := of_decide_eq_true hb | replace hb := of_decide_eq_false hb | replace hb := bne_t hb | replace hb := bne_f hb | skip); all_goals (try (exfalso; omega)))
        | (apply aw_cond; exact rfl; all_goals intro hb; all_goals (try simp only [hb]); all_goals (first | replace hb := of_decide_eq_true hb | replace hb := of_decide_eq_false hb | replace hb := bne_t hb | replace hb := bne_f hb | skip); all_goals (try (exfalso; omega))))
      have hnn : ∀ v : List Lvl, (∀ y ∈ v, 1 ≤ y.qty) → 0 ≤ sumV v := by
        intro v
        induction v with
        | nil => intro _; simp [sumV]
        | cons x v ih =>
          intro hv
          have h2 := ih (fun y hy => hv y (List.mem_cons_of_mem _ hy))
          have h3 := hv x List.mem_cons_self
          have e : sumV (x :: v) = x.qty + sumV v := by simp [sumV]
          rw [e]; omega
      have hsplit : ∀ i, sumV (vm.take i) + sumV (vm.drop i) = sm := fun i => by rw [← sumV_append, List.take_append_drop]; exact hls
      have hdn : ∀ i, 0 ≤ sumV (vm.drop i) := fun i => hnn _ (fun y hy => (hpos y (List.mem_of_mem_drop hy)).1)
      have htn : ∀ i, 0 ≤ sumV (vm.take i) := fun i => hnn _ (fun y hy => (hpos y (List.mem_of_mem_take hy)).1)
      refine aw_loop (α := Nat × Int) (E := fun i => [(1, .int .i64 s), (6, .int .i64 i.2), (10, .slice AL vm.length cL), (11, .int .i64 i.1)])
        (H := fun _ => [.own AL vm.length cL 35 2 (vm.flatMap Lvl.enc)]) (μ := fun i => vm.length - i.1)
        (S := fun i => i.1 ≤ vm.length ∧ i.2 = sumV (vm.drop i.1)) (0, sm) (J := [_, _, _]) ⟨Nat.zero_le _, hls.symm⟩ ⟨rfl, rfl, rfl, rfl, trivial⟩ (selS (selS (selS sel0))).symm ?_
      rintro ⟨i, q⟩ ⟨hi, hq⟩
      dsimp only at hi hq ⊢
      by_cases hil : i < vm.length
      · obtain ⟨x, hx⟩ : ∃ x, vm[i]? = some x := ⟨vm[i]'(by omega), List.getElem?_eq_getElem (by omega)⟩
        have hx2 : vm[(i : Int).toNat]? = some x := by simpa using hx
        have hAL := hfL.some_ (by omega)
        have hd3 : decide ((i : Int) < (vm.length : Int)) = true := by simp; omega
        have hqx := hpos x (List.mem_of_getElem? hx)
        have hstep : sumV (vm.drop i) - x.qty = sumV (vm.drop (i + 1)) := by
          obtain ⟨g2, e2⟩ := List.getElem?_eq_some_iff.1 hx
          rw [List.drop_eq_getElem_cons g2, e2]
          simp [sumV]
          try omega
        have b1 := hdn i
        have b2 := hsplit i
        have b3 := htn i
        have b4 := hdn (i + 1)
        rw [← hq] at hstep b1 b2
        clear hdn htn hsplit hnn hpos
        by_cases hi0 : i = 0
        · subst hi0
          repeat' (first
            | (apply es_gtrT hT; (iterate 5 exact rfl); omega)
            | (apply es_lssF hT; (iterate 5 exact rfl); omega)
            | apply aw_seq | apply aw_region | apply aw_ret | apply aw_skip | apply aw_exit | apply aw_block | apply es_nil
            | (apply es_pure hT; (iterate 4 exact rfl)) | (apply es_skip; (iterate 3 exact rfl)) | (apply es_skip0; (iterate 2 exact rfl))
            | (apply es_i64 hT; (iterate 4 exact rfl); (iterate 2 omega))
            | (apply aw_draw [29] [] hmix; decide +kernel)
            | (apply es_idx hT; (iterate 8 exact rfl); (iterate 2 omega); exact hAL)
            | (apply es_load; (iterate 5 exact rfl); exact ld_fld hT rfl rfl (hfL.reads mem0) Lvl.enc_len (adr_add _ _ _) hx2 (by decide) rfl)
            | (apply es_load; (iterate 5 exact rfl); first | exact ld_blk hT rfl rfl mem0 rfl rfl | exact ld_all hT rfl rfl mem0 rfl)
            | (apply es_load; (iterate 5 exact rfl); first | exact ld_blk hT rfl rfl mem1 rfl rfl | exact ld_all hT rfl rfl mem1 rfl)
            | (apply es_load; (iterate 5 exact rfl); first | exact ld_blk hT rfl rfl mem2 rfl rfl | exact ld_all hT rfl rfl mem2 rfl)
            | (apply es_box; (iterate 5 exact rfl); intro _) | (apply es_alloc hT; (iterate 5 exact rfl); intro _)
            | (apply aw_condT; (iterate 2 exact rfl)) | (apply aw_condF; (iterate 2 exact rfl))
            | (apply es_case; exact rfl; all_goals intro hb; all_goals (try simp only [hb]); all_goals (first | replace hb := of_decide_eq_true hb | replace hb := of_decide_eq_false hb | replace hb := bne_t hb | replace hb := bne_f hb | skip); all_goals (try (exfalso; omega)))
            | (apply aw_cond; exact rfl; all_goals intro hb; all_goals (try simp only [hb]); all_goals (first | replace hb := of_decide_eq_true hb | replace hb := of_decide_eq_false hb | replace hb := bne_t hb | replace hb := bne_f hb | skip); all_goals (try (exfalso; omega))))
          all_goals first
            | (exfalso; omega)
            | exact loopq_end (1, q - x.qty) (by dsimp only; omega) ⟨by dsimp only; omega, hstep⟩ ⟨rfl, rfl, rfl, rfl, trivial⟩ dt_end
            | (exfalso; simp_all; done)
        · obtain ⟨y, hy⟩ : ∃ y, vm[i - 1]? = some y := ⟨vm[i - 1]'(by omega), List.getElem?_eq_getElem (by omega)⟩
          have hy2 : vm[((i : Int) - 1).toNat]? = some y := by rw [show ((i : Int) - 1).toNat = i - 1 by omega]; exact hy
          have hyx : betterB s y.price x.price = true := by
            obtain ⟨g1, e1⟩ := List.getElem?_eq_some_iff.1 hy
            obtain ⟨g2, e2⟩ := List.getElem?_eq_some_iff.1 hx
            have := List.pairwise_iff_getElem.1 hlv (i - 1) i g1 g2 (by omega)
            rwa [e1, e2] at this
          have hbt : ∀ h, QSpec Try.prog W 29 [.int .i64 s, .int .i64 y.price, .int .i64 x.price] h (.bool true) := fun h => ((ref2_Better W s y.price x.price).mono (by simp)).cast (by rw [hyx])
          have hd4 : decide ((i : Int) > 0) = true := by simp; omega
          repeat' (first
            | (apply es_gtrT hT; (iterate 5 exact rfl); omega)
            | (apply es_lssF hT; (iterate 5 exact rfl); omega)
            | apply aw_seq | apply aw_region | apply aw_ret | apply aw_skip | apply aw_exit | apply aw_block | apply es_nil
            | (apply es_pure hT; (iterate 4 exact rfl)) | (apply es_skip; (iterate 3 exact rfl)) | (apply es_skip0; (iterate 2 exact rfl))
            | (apply es_i64 hT; (iterate 4 exact rfl); (iterate 2 omega))
            | (apply aw_draw [29] [] hmix; decide +kernel)
            | (apply es_idx hT; (iterate 8 exact rfl); (iterate 2 omega); exact hAL)
            | (apply es_load; (iterate 5 exact rfl); first | exact ld_fld hT rfl rfl (hfL.reads mem0) Lvl.enc_len (adr_add _ _ _) hx2 (by decide) rfl | exact ld_fld hT rfl rfl (hfL.reads mem0) Lvl.enc_len (adr_add _ _ _) hy2 (by decide) rfl)
            | (apply es_callQ (hs := (hbt _)); (iterate 7 exact rfl))
            | (apply es_load; (iterate 5 exact rfl); first | exact ld_blk hT rfl rfl mem0 rfl rfl | exact ld_all hT rfl rfl mem0 rfl)
            | (apply es_load; (iterate 5 exact rfl); first | exact ld_blk hT rfl rfl mem1 rfl rfl | exact ld_all hT rfl rfl mem1 rfl)
            | (apply es_load; (iterate 5 exact rfl); first | exact ld_blk hT rfl rfl mem2 rfl rfl | exact ld_all hT rfl rfl mem2 rfl)
            | (apply es_box; (iterate 5 exact rfl); intro _) | (apply es_alloc hT; (iterate 5 exact rfl); intro _)
            | (apply aw_condT; (iterate 2 exact rfl)) | (apply aw_condF; (iterate 2 exact rfl))
            | (apply es_case; exact rfl; all_goals intro hb; all_goals (try simp only [hb]); all_goals (first | replace hb := of_decide_eq_true hb | replace hb := of_decide_eq_false hb | replace hb := bne_t hb | replace hb := bne_f hb | skip); all_goals (try (exfalso; omega)))
            | (apply aw_cond; exact rfl; all_goals intro hb; all_goals (try simp only [hb]); all_goals (first | replace hb := of_decide_eq_true hb | replace hb := of_decide_eq_false hb | replace hb := bne_t hb | replace hb := bne_f hb | skip); all_goals (try (exfalso; omega))))
          all_goals first
            | (exfalso; omega)
            | exact loopq_end (i + 1, q - x.qty) (by dsimp only; omega) ⟨by dsimp only; omega, hstep⟩ ⟨rfl, rfl, rfl, rfl, trivial⟩ dt_end
            | (exfalso; simp_all; done)
      · obtain rfl : i = vm.length := by omega
        have hd3 : decide ((vm.length : Int) < (vm.length : Int)) = false := by simp
        have hz : sumV (vm.drop vm.length) = 0 := by simp [sumV]
        rw [hz] at hq
        subst hq
        have hkn := book_known W
        repeat' (first
          | apply aw_seq | apply aw_region | apply aw_ret | apply aw_skip | apply aw_exit | apply aw_block | apply es_nil
          | (apply es_pure hT; (iterate 4 exact rfl)) | (apply es_skip; (iterate 3 exact rfl)) | (apply es_skip0; (iterate 2 exact rfl))
          | (apply es_i64 hT; (iterate 4 exact rfl); (iterate 2 omega))
          | (apply aw_draw [] [] hmix; decide +kernel)
          | (apply es_callQ (hs := (hkn.mono (by simp))); (iterate 7 exact rfl))
          | (apply es_load; (iterate 5 exact rfl); first | exact ld_blk hT rfl rfl mem0 rfl rfl | exact ld_all hT rfl rfl mem0 rfl)
          | (apply es_load; (iterate 5 exact rfl); first | exact ld_blk hT rfl rfl mem1 rfl rfl | exact ld_all hT rfl rfl mem1 rfl)
          | (apply es_load; (iterate 5 exact rfl); first | exact ld_blk hT rfl rfl mem2 rfl rfl | exact ld_all hT rfl rfl mem2 rfl)
          | (apply es_box; (iterate 5 exact rfl); intro _) | (apply es_alloc hT; (iterate 5 exact rfl); intro _)
          | (apply aw_condT; (iterate 2 exact rfl)) | (apply aw_condF; (iterate 2 exact rfl))
          | (apply es_case; exact rfl; all_goals intro hb; all_goals (try simp only [hb]); all_goals (first | replace hb := of_decide_eq_true hb | replace hb := of_decide_eq_false hb | replace hb := bne_t hb | replace hb := bne_f hb | skip); all_goals (try (exfalso; omega)))
          | (apply aw_cond; exact rfl; all_goals intro hb; all_goals (try simp only [hb]); all_goals (first | replace hb := of_decide_eq_true hb | replace hb := of_decide_eq_false hb | replace hb := bne_t hb | replace hb := bne_f hb | skip); all_goals (try (exfalso; omega))))
        apply ret1; exact rfl; exact rfl
end Go.Proofs.Ytiefkpfamkkapaa
