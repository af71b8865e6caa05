/- The statement's walk, and what it stands on, joined into few texts: part 3. Conditions stand in each statement. -/
import Derived.Maps.AppendAt
import Derived.Laws.CopyOwn
import Derived.Laws.MakeOwn
import Derived.Laws.StructEq
import Derived.Deep.Quiet
import Derived.Below
import Derived.Tactics
import Derived.IntWalk
import Derived.Lib.Overlaps
import Derived.Test.YtjcnaeengplcbaaRows
import Derived.OpenShut
import Derived.ChangeSame
import Derived.ProofKit
import Derived.WideKeyArgs
import Derived.Deep.Slices
import Derived.Deep.Fields
import Derived.Test.YtjcnaeengplcbaaChecked
import Derived.KernelRfl
import Derived.MapKept
import Derived.Shelf.SlSortCmp.NoneTotal
import Derived.Ground.SlsfProg
import Derived.WalkKit
import Derived.Sort.Grow
import Derived.Lib.Mul64
import Derived.Laws.Bits64b
import Derived.ChangeKeysEq
import Derived.Test.YtjcnaeengplcbaaBndSteady2
set_option linter.unusedSimpArgs false
set_option linter.unusedVariables false
namespace Go.Sl
open Go
theorem es_lookupV {P : Program} {W : World} {T : Tab} {N : Nat} {env : Env} {h : List Chunk} {kf : KF} {ops : Array Oper} {K : Env → List Chunk → Prop} {rest : List Oper} (hT : TabOK P T) {b : Bool} {d : Tmp} {ty pos af g} {t kt et : TypeId} {ti ke te : TI} {x ix : Operand} {gm : Nat} {n : Int} {l : List (Int × Value)} {ok : Bool} {r : Option Value} (hg : evalG ops env g = some b) (hb : b = true) (hd : Nat.blt d N = true) (hk : (kf.kd ⟨some d, .lookup t x ix ok, ty, pos, af, g⟩).wr = true)
    (ht : T.lookup t = some ti) (htd : ti.desc = .map kt et) (hke : T.lookup kt = some ke) (hkd : ke.desc = .int .i64) (hte : T.lookup et = some te) (hx : evalE env x = some (.map (some gm))) (hi : evalE env ix = some (.int .i64 n)) (hm : Chunk.map gm (mapI l) ∈ h) (hv : getI l n = r)
    (hK : ES P W N kf ops rest ((d, if ok then .tuple #[r.getD te.zero, .bool r.isSome] else r.getD te.zero) :: env) h K) : ES P W N kf ops (⟨some d, .lookup t x ix ok, ty, pos, af, g⟩ :: rest) env h K := by
  subst hv
  exact es_lookup hT hg hb hd hk ht htd hke hkd hte hx hi hm hK
end Go.Sl
namespace Go.Proofs.Ytjcnaeengplcbaa
open Go Go.Sl
attribute [local irreducible] AW ES EP Ld RetQ
set_option maxRecDepth 100000

set_option maxHeartbeats 1000000 in
theorem audit_Steady (W : World) (h : List Chunk) (A : Option Addr) (c : Nat) (l : List FrameR) (hr : Reads W h A l.length 8 (l.flatMap FrameR.enc)) (hb : l.length ≤ 1000000) :
    QSpec Try.prog W 8 [.slice A l.length c] h (.bool (steadyV l)) := by
  refine QSpec.ofD (fun h' hs => ?_)
  have hrd := hr.mono hs
  refine spec_body Try.func8 rfl rfl Try.results8 Try.ntmps8 rfl rfl ?_
  refine aw_reads hrd rfl (fun hA => ?_)
  repeat' (first
    | apply aw_seq | apply aw_region | apply aw_ret | apply aw_skip | apply aw_exit | apply aw_block | apply es_nil
    | (apply es_pure hT; (iterate 4 exact rfl)) | (apply es_skip; (iterate 3 exact rfl)) | (apply es_skip0; (iterate 2 exact rfl))
    | (apply es_i64 hT; (iterate 4 exact rfl); (iterate 2 (first | omega | (dsimp only; omega))))
    | (apply aw_draw [] [] hmix; decide +kernel)
    | (apply es_makeMap; (iterate 4 exact rfl); intro gm)
    | (apply es_load; (iterate 5 exact rfl); first | (apply ld_blk hT; exact rfl; exact rfl; (repeat (first | exact List.mem_cons_self | apply List.mem_cons_of_mem | apply List.mem_append_right)); exact rfl; exact rfl) | (apply ld_all hT; exact rfl; exact rfl; (repeat (first | exact List.mem_cons_self | apply List.mem_cons_of_mem | apply List.mem_append_right)); exact rfl))
    | (apply es_box; (iterate 5 exact rfl); intro _) | (apply es_alloc hT; (iterate 5 exact rfl); intro _)
    | (apply aw_condT; (iterate 2 exact rfl)) | (apply aw_condF; (iterate 2 exact rfl))
    | (apply es_case; exact rfl; all_goals intro hb; all_goals (fail_if_success (change true = true at hb)); all_goals (fail_if_success (change false = false at hb)); all_goals (try dsimp only at hb); all_goals (try simp only [hb]); all_goals (first | replace hb := of_decide_eq_true hb | replace hb := of_decide_eq_false hb | replace hb := bne_t hb | replace hb := bne_f hb | replace hb := eq_of_beq hb | replace hb := ne_of_beq_false hb | skip); all_goals (try (exfalso; omega)))
    | (apply aw_cond; exact rfl; all_goals intro hb; all_goals (try dsimp only at hb); all_goals (try simp only [hb]); all_goals (first | replace hb := of_decide_eq_true hb | replace hb := of_decide_eq_false hb | replace hb := bne_t hb | replace hb := bne_f hb | replace hb := eq_of_beq hb | replace hb := ne_of_beq_false hb | skip); all_goals (try (exfalso; omega))))
  refine aw_loopD (α := Nat) (E := fun k => [(3, .map (some gm)), (9, .slice A l.length c), (10, .int .i64 l.length), (11, .int .i64 k)]) (H := fun k => .map gm (mapI (mpF (l.take k))) :: h') (μ := fun k => l.length - k)
    (S := fun k => k ≤ l.length ∧ (l.take k).Pairwise oneF) 0 ⟨Nat.zero_le _, by simp⟩ ⟨rfl, rfl, rfl, rfl, trivial⟩ (by (repeat (first | exact dt_end | (apply dt_cons; · (repeat (first | exact sel0 | apply selS | apply selApp))) | apply dt_skip | apply dt_both))) ?_
  rintro k ⟨hk, hpw⟩
  by_cases hlt : k < l.length
  · obtain ⟨x, hx⟩ : ∃ x, l[k]? = some x := ⟨l[k]'(by omega), List.getElem?_eq_getElem (by omega)⟩
    have hx2 : l[(k : Int).toNat]? = some x := by simpa using hx
    have hA' := hA (by omega)
    have hd1 : decide ((k : Int) < (l.length : Int)) = true := by simp; omega
    have hst : mpF (l.take (k + 1)) = updI (mpF (l.take k)) x.seq (.agg x.msg.enc.toArray) := by
      rw [List.take_add_one, hx]
      exact mpF_add _ _
    have hlast := steady_last hx hpw
    have hwrong := fun v (h0 : x.seq ≠ 0) hg hne => steady_wrong (k := k) (v := v) hx h0 hg hne
    have hget := mpF_get (l.take k) x.seq
    generalize mpF (l.take k) = m at *
    rcases hgt : getI m x.seq with _ | v
    · have hgo := hlast (.inr (.inl hgt))
      have hne := eqMsgF x.msg x.msg
      by_cases h0 : x.seq = 0
      · skip
        repeat' (first
          | (apply es_diffB hT; (iterate 5 exact rfl))
          | apply aw_seq | apply aw_region | apply aw_ret | apply aw_skip | apply aw_exit | apply aw_block | apply es_nil
          | (apply es_pure hT; (iterate 4 exact rfl)) | (apply es_skip; (iterate 3 exact rfl)) | (apply es_skip0; (iterate 2 exact rfl))
          | (apply es_i64 hT; (iterate 4 exact rfl); (iterate 2 (first | omega | (dsimp only; omega))))
          | (apply aw_draw [] [] hmix; decide +kernel)
          | (apply es_idx hT; (iterate 8 exact rfl); (iterate 2 omega); exact hA')
          | (apply es_load; (iterate 5 exact rfl); first | exact ld_elem hT rfl rfl (hrd.mono (by (intro c hc; (repeat (first | exact hc | apply List.mem_cons_of_mem | apply List.mem_append_right))))) FrameR.enc_len rfl hx2 rfl | (apply ld_all hT; exact rfl; exact rfl; (repeat (first | exact List.mem_cons_self | apply List.mem_cons_of_mem | apply List.mem_append_right)); exact rfl) | (apply ld_blks hT; exact rfl; exact rfl; (repeat (first | exact List.mem_cons_self | apply List.mem_cons_of_mem | apply List.mem_append_right)); exact rfl; exact Nat.le_of_ble_eq_true rfl))
          | (apply es_alloc hT; (iterate 5 exact rfl); first | ((fail_if_success (have q := g5)); intro g5) | ((fail_if_success (have q := g6)); intro g6) | intro _)
          | (apply es_lookupV hT; (iterate 11 exact rfl); (repeat (first | exact List.mem_cons_self | apply List.mem_cons_of_mem | apply List.mem_append_right)); exact hgt)
          | (apply es_neT hT; (iterate 5 exact rfl); exact hne; decide; exact heldFM; exact sOKMsg.2)
          | (apply es_mapUpdate hT; (iterate 10 exact rfl); (repeat (first | exact sel0 | apply selS | apply selApp)))
          | (apply es_store hT; (iterate 6 exact rfl); (repeat (first | exact sel0 | apply selS | apply selApp)); (iterate 3 exact rfl); exact Nat.le_of_ble_eq_true rfl)
          | (apply es_load; (iterate 5 exact rfl); first | (apply ld_blk hT; exact rfl; exact rfl; (repeat (first | exact List.mem_cons_self | apply List.mem_cons_of_mem | apply List.mem_append_right)); exact rfl; exact rfl) | (apply ld_all hT; exact rfl; exact rfl; (repeat (first | exact List.mem_cons_self | apply List.mem_cons_of_mem | apply List.mem_append_right)); exact rfl))
          | (apply es_box; (iterate 5 exact rfl); intro _) | (apply es_alloc hT; (iterate 5 exact rfl); intro _)
          | (apply aw_condT; (iterate 2 exact rfl)) | (apply aw_condF; (iterate 2 exact rfl))
          | (apply es_case; exact rfl; all_goals intro hb; all_goals (fail_if_success (change true = true at hb)); all_goals (fail_if_success (change false = false at hb)); all_goals (try dsimp only at hb); all_goals (try simp only [hb]); all_goals (first | replace hb := of_decide_eq_true hb | replace hb := of_decide_eq_false hb | replace hb := bne_t hb | replace hb := bne_f hb | replace hb := eq_of_beq hb | replace hb := ne_of_beq_false hb | skip); all_goals (try (exfalso; omega)))
          | (apply aw_cond; exact rfl; all_goals intro hb; all_goals (try dsimp only at hb); all_goals (try simp only [hb]); all_goals (first | replace hb := of_decide_eq_true hb | replace hb := of_decide_eq_false hb | replace hb := bne_t hb | replace hb := bne_f hb | replace hb := eq_of_beq hb | replace hb := ne_of_beq_false hb | skip); all_goals (try (exfalso; omega))))
        all_goals first
          | (exfalso; omega)
          | exact loopq_end (k + 1) (by (try dsimp only); omega) ⟨by (try dsimp only); omega, hgo⟩ ⟨rfl, rfl, rfl, rfl, trivial⟩ (by dsimp only; rw [hst]; (repeat (first | exact dt_end | (apply dt_cons; · (repeat (first | exact sel0 | apply selS | apply selApp))) | apply dt_skip | apply dt_both)))
          | skip
      · skip
        repeat' (first
          | (apply es_diffB hT; (iterate 5 exact rfl))
          | apply aw_seq | apply aw_region | apply aw_ret | apply aw_skip | apply aw_exit | apply aw_block | apply es_nil
          | (apply es_pure hT; (iterate 4 exact rfl)) | (apply es_skip; (iterate 3 exact rfl)) | (apply es_skip0; (iterate 2 exact rfl))
          | (apply es_i64 hT; (iterate 4 exact rfl); (iterate 2 (first | omega | (dsimp only; omega))))
          | (apply aw_draw [] [] hmix; decide +kernel)
          | (apply es_idx hT; (iterate 8 exact rfl); (iterate 2 omega); exact hA')
          | (apply es_load; (iterate 5 exact rfl); first | exact ld_elem hT rfl rfl (hrd.mono (by (intro c hc; (repeat (first | exact hc | apply List.mem_cons_of_mem | apply List.mem_append_right))))) FrameR.enc_len rfl hx2 rfl | (apply ld_all hT; exact rfl; exact rfl; (repeat (first | exact List.mem_cons_self | apply List.mem_cons_of_mem | apply List.mem_append_right)); exact rfl) | (apply ld_blks hT; exact rfl; exact rfl; (repeat (first | exact List.mem_cons_self | apply List.mem_cons_of_mem | apply List.mem_append_right)); exact rfl; exact Nat.le_of_ble_eq_true rfl))
          | (apply es_alloc hT; (iterate 5 exact rfl); first | ((fail_if_success (have q := g5)); intro g5) | ((fail_if_success (have q := g6)); intro g6) | intro _)
          | (apply es_lookupV hT; (iterate 11 exact rfl); (repeat (first | exact List.mem_cons_self | apply List.mem_cons_of_mem | apply List.mem_append_right)); exact hgt)
          | (apply es_neT hT; (iterate 5 exact rfl); exact hne; decide; exact heldFM; exact sOKMsg.2)
          | (apply es_mapUpdate hT; (iterate 10 exact rfl); (repeat (first | exact sel0 | apply selS | apply selApp)))
          | (apply es_store hT; (iterate 6 exact rfl); (repeat (first | exact sel0 | apply selS | apply selApp)); (iterate 3 exact rfl); exact Nat.le_of_ble_eq_true rfl)
          | (apply es_load; (iterate 5 exact rfl); first | (apply ld_blk hT; exact rfl; exact rfl; (repeat (first | exact List.mem_cons_self | apply List.mem_cons_of_mem | apply List.mem_append_right)); exact rfl; exact rfl) | (apply ld_all hT; exact rfl; exact rfl; (repeat (first | exact List.mem_cons_self | apply List.mem_cons_of_mem | apply List.mem_append_right)); exact rfl))
          | (apply es_box; (iterate 5 exact rfl); intro _) | (apply es_alloc hT; (iterate 5 exact rfl); intro _)
          | (apply aw_condT; (iterate 2 exact rfl)) | (apply aw_condF; (iterate 2 exact rfl))
          | (apply es_case; exact rfl; all_goals intro hb; all_goals (fail_if_success (change true = true at hb)); all_goals (fail_if_success (change false = false at hb)); all_goals (try dsimp only at hb); all_goals (try simp only [hb]); all_goals (first | replace hb := of_decide_eq_true hb | replace hb := of_decide_eq_false hb | replace hb := bne_t hb | replace hb := bne_f hb | replace hb := eq_of_beq hb | replace hb := ne_of_beq_false hb | skip); all_goals (try (exfalso; omega)))
          | (apply aw_cond; exact rfl; all_goals intro hb; all_goals (try dsimp only at hb); all_goals (try simp only [hb]); all_goals (first | replace hb := of_decide_eq_true hb | replace hb := of_decide_eq_false hb | replace hb := bne_t hb | replace hb := bne_f hb | replace hb := eq_of_beq hb | replace hb := ne_of_beq_false hb | skip); all_goals (try (exfalso; omega))))
        all_goals first
          | (exfalso; omega)
          | exact loopq_end (k + 1) (by (try dsimp only); omega) ⟨by (try dsimp only); omega, hgo⟩ ⟨rfl, rfl, rfl, rfl, trivial⟩ (by dsimp only; rw [hst]; (repeat (first | exact dt_end | (apply dt_cons; · (repeat (first | exact sel0 | apply selS | apply selApp))) | apply dt_skip | apply dt_both)))
          | skip
    · obtain ⟨z, hz⟩ : ∃ z : FrameR, v = .agg z.msg.enc.toArray := by
        rcases hget with ⟨h1, _⟩ | ⟨z, _, _, h2, _⟩
        · rw [hgt] at h1; cases h1
        · rw [hgt] at h2
          exact ⟨z, by injection h2⟩
      subst hz
      have hne := eqMsgF z.msg x.msg
      by_cases h0 : x.seq = 0
      · have hgo := hlast (.inl h0)
        repeat' (first
          | (apply es_diffB hT; (iterate 5 exact rfl))
          | apply aw_seq | apply aw_region | apply aw_ret | apply aw_skip | apply aw_exit | apply aw_block | apply es_nil
          | (apply es_pure hT; (iterate 4 exact rfl)) | (apply es_skip; (iterate 3 exact rfl)) | (apply es_skip0; (iterate 2 exact rfl))
          | (apply es_i64 hT; (iterate 4 exact rfl); (iterate 2 (first | omega | (dsimp only; omega))))
          | (apply aw_draw [] [] hmix; decide +kernel)
          | (apply es_idx hT; (iterate 8 exact rfl); (iterate 2 omega); exact hA')
          | (apply es_load; (iterate 5 exact rfl); first | exact ld_elem hT rfl rfl (hrd.mono (by (intro c hc; (repeat (first | exact hc | apply List.mem_cons_of_mem | apply List.mem_append_right))))) FrameR.enc_len rfl hx2 rfl | (apply ld_all hT; exact rfl; exact rfl; (repeat (first | exact List.mem_cons_self | apply List.mem_cons_of_mem | apply List.mem_append_right)); exact rfl) | (apply ld_blks hT; exact rfl; exact rfl; (repeat (first | exact List.mem_cons_self | apply List.mem_cons_of_mem | apply List.mem_append_right)); exact rfl; exact Nat.le_of_ble_eq_true rfl))
          | (apply es_alloc hT; (iterate 5 exact rfl); first | ((fail_if_success (have q := g5)); intro g5) | ((fail_if_success (have q := g6)); intro g6) | intro _)
          | (apply es_lookupV hT; (iterate 11 exact rfl); (repeat (first | exact List.mem_cons_self | apply List.mem_cons_of_mem | apply List.mem_append_right)); exact hgt)
          | (apply es_neT hT; (iterate 5 exact rfl); exact hne; decide; exact heldFM; exact sOKMsg.2)
          | (apply es_mapUpdate hT; (iterate 10 exact rfl); (repeat (first | exact sel0 | apply selS | apply selApp)))
          | (apply es_store hT; (iterate 6 exact rfl); (repeat (first | exact sel0 | apply selS | apply selApp)); (iterate 3 exact rfl); exact Nat.le_of_ble_eq_true rfl)
          | (apply es_load; (iterate 5 exact rfl); first | (apply ld_blk hT; exact rfl; exact rfl; (repeat (first | exact List.mem_cons_self | apply List.mem_cons_of_mem | apply List.mem_append_right)); exact rfl; exact rfl) | (apply ld_all hT; exact rfl; exact rfl; (repeat (first | exact List.mem_cons_self | apply List.mem_cons_of_mem | apply List.mem_append_right)); exact rfl))
          | (apply es_box; (iterate 5 exact rfl); intro _) | (apply es_alloc hT; (iterate 5 exact rfl); intro _)
          | (apply aw_condT; (iterate 2 exact rfl)) | (apply aw_condF; (iterate 2 exact rfl))
          | (apply es_case; exact rfl; all_goals intro hb; all_goals (fail_if_success (change true = true at hb)); all_goals (fail_if_success (change false = false at hb)); all_goals (try dsimp only at hb); all_goals (try simp only [hb]); all_goals (first | replace hb := of_decide_eq_true hb | replace hb := of_decide_eq_false hb | replace hb := bne_t hb | replace hb := bne_f hb | replace hb := eq_of_beq hb | replace hb := ne_of_beq_false hb | skip); all_goals (try (exfalso; omega)))
          | (apply aw_cond; exact rfl; all_goals intro hb; all_goals (try dsimp only at hb); all_goals (try simp only [hb]); all_goals (first | replace hb := of_decide_eq_true hb | replace hb := of_decide_eq_false hb | replace hb := bne_t hb | replace hb := bne_f hb | replace hb := eq_of_beq hb | replace hb := ne_of_beq_false hb | skip); all_goals (try (exfalso; omega))))
        all_goals first
          | (exfalso; omega)
          | exact loopq_end (k + 1) (by (try dsimp only); omega) ⟨by (try dsimp only); omega, hgo⟩ ⟨rfl, rfl, rfl, rfl, trivial⟩ (by dsimp only; rw [hst]; (repeat (first | exact dt_end | (apply dt_cons; · (repeat (first | exact sel0 | apply selS | apply selApp))) | apply dt_skip | apply dt_both)))
          | skip
      · by_cases hzx : z.msg = x.msg
        · have hgo := hlast (.inr (.inr (by rw [hgt, hzx])))
          rw [decide_eq_true hzx] at hne
          repeat' (first
            | (apply es_diffB hT; (iterate 5 exact rfl))
            | apply aw_seq | apply aw_region | apply aw_ret | apply aw_skip | apply aw_exit | apply aw_block | apply es_nil
            | (apply es_pure hT; (iterate 4 exact rfl)) | (apply es_skip; (iterate 3 exact rfl)) | (apply es_skip0; (iterate 2 exact rfl))
            | (apply es_i64 hT; (iterate 4 exact rfl); (iterate 2 (first | omega | (dsimp only; omega))))
            | (apply aw_draw [] [] hmix; decide +kernel)
            | (apply es_idx hT; (iterate 8 exact rfl); (iterate 2 omega); exact hA')
            | (apply es_load; (iterate 5 exact rfl); first | exact ld_elem hT rfl rfl (hrd.mono (by (intro c hc; (repeat (first | exact hc | apply List.mem_cons_of_mem | apply List.mem_append_right))))) FrameR.enc_len rfl hx2 rfl | (apply ld_all hT; exact rfl; exact rfl; (repeat (first | exact List.mem_cons_self | apply List.mem_cons_of_mem | apply List.mem_append_right)); exact rfl) | (apply ld_blks hT; exact rfl; exact rfl; (repeat (first | exact List.mem_cons_self | apply List.mem_cons_of_mem | apply List.mem_append_right)); exact rfl; exact Nat.le_of_ble_eq_true rfl))
            | (apply es_alloc hT; (iterate 5 exact rfl); first | ((fail_if_success (have q := g5)); intro g5) | ((fail_if_success (have q := g6)); intro g6) | intro _)
            | (apply es_lookupV hT; (iterate 11 exact rfl); (repeat (first | exact List.mem_cons_self | apply List.mem_cons_of_mem | apply List.mem_append_right)); exact hgt)
            | (apply es_neT hT; (iterate 5 exact rfl); exact hne; decide; exact heldFM; exact sOKMsg.2)
            | (apply es_mapUpdate hT; (iterate 10 exact rfl); (repeat (first | exact sel0 | apply selS | apply selApp)))
            | (apply es_store hT; (iterate 6 exact rfl); (repeat (first | exact sel0 | apply selS | apply selApp)); (iterate 3 exact rfl); exact Nat.le_of_ble_eq_true rfl)
            | (apply es_load; (iterate 5 exact rfl); first | (apply ld_blk hT; exact rfl; exact rfl; (repeat (first | exact List.mem_cons_self | apply List.mem_cons_of_mem | apply List.mem_append_right)); exact rfl; exact rfl) | (apply ld_all hT; exact rfl; exact rfl; (repeat (first | exact List.mem_cons_self | apply List.mem_cons_of_mem | apply List.mem_append_right)); exact rfl))
            | (apply es_box; (iterate 5 exact rfl); intro _) | (apply es_alloc hT; (iterate 5 exact rfl); intro _)
            | (apply aw_condT; (iterate 2 exact rfl)) | (apply aw_condF; (iterate 2 exact rfl))
            | (apply es_case; exact rfl; all_goals intro hb; all_goals (fail_if_success (change true = true at hb)); all_goals (fail_if_success (change false = false at hb)); all_goals (try dsimp only at hb); all_goals (try simp only [hb]); all_goals (first | replace hb := of_decide_eq_true hb | replace hb := of_decide_eq_false hb | replace hb := bne_t hb | replace hb := bne_f hb | replace hb := eq_of_beq hb | replace hb := ne_of_beq_false hb | skip); all_goals (try (exfalso; omega)))
            | (apply aw_cond; exact rfl; all_goals intro hb; all_goals (try dsimp only at hb); all_goals (try simp only [hb]); all_goals (first | replace hb := of_decide_eq_true hb | replace hb := of_decide_eq_false hb | replace hb := bne_t hb | replace hb := bne_f hb | replace hb := eq_of_beq hb | replace hb := ne_of_beq_false hb | skip); all_goals (try (exfalso; omega))))
          all_goals first
            | (exfalso; omega)
            | exact loopq_end (k + 1) (by (try dsimp only); omega) ⟨by (try dsimp only); omega, hgo⟩ ⟨rfl, rfl, rfl, rfl, trivial⟩ (by dsimp only; rw [hst]; (repeat (first | exact dt_end | (apply dt_cons; · (repeat (first | exact sel0 | apply selS | apply selApp))) | apply dt_skip | apply dt_both)))
            | skip
        · have hbad := hwrong _ h0 hgt (fun e => hzx (enc_inj (by injection e with e; injection e)))
          rw [decide_eq_false hzx] at hne
          repeat' (first
            | (apply es_diffB hT; (iterate 5 exact rfl))
            | apply aw_seq | apply aw_region | apply aw_ret | apply aw_skip | apply aw_exit | apply aw_block | apply es_nil
            | (apply es_pure hT; (iterate 4 exact rfl)) | (apply es_skip; (iterate 3 exact rfl)) | (apply es_skip0; (iterate 2 exact rfl))
            | (apply es_i64 hT; (iterate 4 exact rfl); (iterate 2 (first | omega | (dsimp only; omega))))
            | (apply aw_draw [] [] hmix; decide +kernel)
            | (apply es_idx hT; (iterate 8 exact rfl); (iterate 2 omega); exact hA')
            | (apply es_load; (iterate 5 exact rfl); first | exact ld_elem hT rfl rfl (hrd.mono (by (intro c hc; (repeat (first | exact hc | apply List.mem_cons_of_mem | apply List.mem_append_right))))) FrameR.enc_len rfl hx2 rfl | (apply ld_all hT; exact rfl; exact rfl; (repeat (first | exact List.mem_cons_self | apply List.mem_cons_of_mem | apply List.mem_append_right)); exact rfl) | (apply ld_blks hT; exact rfl; exact rfl; (repeat (first | exact List.mem_cons_self | apply List.mem_cons_of_mem | apply List.mem_append_right)); exact rfl; exact Nat.le_of_ble_eq_true rfl))
            | (apply es_alloc hT; (iterate 5 exact rfl); first | ((fail_if_success (have q := g5)); intro g5) | ((fail_if_success (have q := g6)); intro g6) | intro _)
            | (apply es_lookupV hT; (iterate 11 exact rfl); (repeat (first | exact List.mem_cons_self | apply List.mem_cons_of_mem | apply List.mem_append_right)); exact hgt)
            | (apply es_neT hT; (iterate 5 exact rfl); exact hne; decide; exact heldFM; exact sOKMsg.2)
            | (apply es_mapUpdate hT; (iterate 10 exact rfl); (repeat (first | exact sel0 | apply selS | apply selApp)))
            | (apply es_store hT; (iterate 6 exact rfl); (repeat (first | exact sel0 | apply selS | apply selApp)); (iterate 3 exact rfl); exact Nat.le_of_ble_eq_true rfl)
            | (apply es_load; (iterate 5 exact rfl); first | (apply ld_blk hT; exact rfl; exact rfl; (repeat (first | exact List.mem_cons_self | apply List.mem_cons_of_mem | apply List.mem_append_right)); exact rfl; exact rfl) | (apply ld_all hT; exact rfl; exact rfl; (repeat (first | exact List.mem_cons_self | apply List.mem_cons_of_mem | apply List.mem_append_right)); exact rfl))
            | (apply es_box; (iterate 5 exact rfl); intro _) | (apply es_alloc hT; (iterate 5 exact rfl); intro _)
            | (apply aw_condT; (iterate 2 exact rfl)) | (apply aw_condF; (iterate 2 exact rfl))
            | (apply es_case; exact rfl; all_goals intro hb; all_goals (fail_if_success (change true = true at hb)); all_goals (fail_if_success (change false = false at hb)); all_goals (try dsimp only at hb); all_goals (try simp only [hb]); all_goals (first | replace hb := of_decide_eq_true hb | replace hb := of_decide_eq_false hb | replace hb := bne_t hb | replace hb := bne_f hb | replace hb := eq_of_beq hb | replace hb := ne_of_beq_false hb | skip); all_goals (try (exfalso; omega)))
            | (apply aw_cond; exact rfl; all_goals intro hb; all_goals (try dsimp only at hb); all_goals (try simp only [hb]); all_goals (first | replace hb := of_decide_eq_true hb | replace hb := of_decide_eq_false hb | replace hb := bne_t hb | replace hb := bne_f hb | replace hb := eq_of_beq hb | replace hb := ne_of_beq_false hb | skip); all_goals (try (exfalso; omega))))
          all_goals first
            | (exfalso; omega)
            | (apply ret1; exact rfl; exact ⟨by rw [hbad], by (repeat (first | exact dt_end | (apply dt_cons; · (repeat (first | exact sel0 | apply selS | apply selApp))) | apply dt_skip | apply dt_both))⟩)
            | skip
  · obtain rfl : k = l.length := by omega
    have hd1 : decide ((l.length : Int) < (l.length : Int)) = false := by simp
    rw [List.take_length] at hpw
    repeat' (first
      | apply aw_seq | apply aw_region | apply aw_ret | apply aw_skip | apply aw_exit | apply aw_block | apply es_nil
      | (apply es_pure hT; (iterate 4 exact rfl)) | (apply es_skip; (iterate 3 exact rfl)) | (apply es_skip0; (iterate 2 exact rfl))
      | (apply es_i64 hT; (iterate 4 exact rfl); (iterate 2 (first | omega | (dsimp only; omega))))
      | (apply aw_draw [] [] hmix; decide +kernel)
      | (apply es_load; (iterate 5 exact rfl); first | (apply ld_blk hT; exact rfl; exact rfl; (repeat (first | exact List.mem_cons_self | apply List.mem_cons_of_mem | apply List.mem_append_right)); exact rfl; exact rfl) | (apply ld_all hT; exact rfl; exact rfl; (repeat (first | exact List.mem_cons_self | apply List.mem_cons_of_mem | apply List.mem_append_right)); exact rfl))
      | (apply es_box; (iterate 5 exact rfl); intro _) | (apply es_alloc hT; (iterate 5 exact rfl); intro _)
      | (apply aw_condT; (iterate 2 exact rfl)) | (apply aw_condF; (iterate 2 exact rfl))
      | (apply es_case; exact rfl; all_goals intro hb; all_goals (fail_if_success (change true = true at hb)); all_goals (fail_if_success (change false = false at hb)); all_goals (try dsimp only at hb); all_goals (try simp only [hb]); all_goals (first | replace hb := of_decide_eq_true hb | replace hb := of_decide_eq_false hb | replace hb := bne_t hb | replace hb := bne_f hb | replace hb := eq_of_beq hb | replace hb := ne_of_beq_false hb | skip); all_goals (try (exfalso; omega)))
      | (apply aw_cond; exact rfl; all_goals intro hb; all_goals (try dsimp only at hb); all_goals (try simp only [hb]); all_goals (first | replace hb := of_decide_eq_true hb | replace hb := of_decide_eq_false hb | replace hb := bne_t hb | replace hb := bne_f hb | replace hb := eq_of_beq hb | replace hb := ne_of_beq_false hb | skip); all_goals (try (exfalso; omega))))
    all_goals first
      | (exfalso; omega)
      | (apply ret1; exact rfl; exact ⟨by rw [show steadyV l = true from decide_eq_true hpw], by (repeat (first | exact dt_end | (apply dt_cons; · (repeat (first | exact sel0 | apply selS | apply selApp))) | apply dt_skip | apply dt_both))⟩)
      | skip
theorem steady_all {l : List FrameR} (h : ∀ (i j : Nat) f g, j < i → l[i]? = some f → l[j]? = some g → oneF g f) : steadyV l = true := by
  refine decide_eq_true (List.pairwise_iff_getElem.2 (fun i j hi hj hij => ?_))
  exact h j i _ _ hij (List.getElem?_eq_getElem hj) (List.getElem?_eq_getElem hi)
theorem ref27_Steady (W : World) (h : List Chunk) (A : Option Addr) (c : Nat) (l : List FrameR) (hr : Reads W h A l.length 8 (l.flatMap FrameR.enc)) (hb : l.length ≤ 1000000) :
    QSpec Try.prog W 9 [.slice A l.length c] h (.bool (steadyV l)) := by
  refine QSpec.ofD (fun h' hs => ?_)
  have hrd := hr.mono hs
  refine spec_body Try.func9 rfl rfl Try.results9 Try.ntmps9 rfl rfl ?_
  refine aw_reads hrd rfl (fun hA => ?_)
  repeat' (first
    | apply aw_seq | apply aw_region | apply aw_ret | apply aw_skip | apply aw_exit | apply aw_block | apply es_nil
    | (apply es_pure hT; (iterate 4 exact rfl)) | (apply es_skip; (iterate 3 exact rfl)) | (apply es_skip0; (iterate 2 exact rfl))
    | (apply es_i64 hT; (iterate 4 exact rfl); (iterate 2 (first | omega | (dsimp only; omega))))
    | (apply aw_draw [] [] hmix; decide +kernel)
    | (apply es_load; (iterate 5 exact rfl); first | (apply ld_blk hT; exact rfl; exact rfl; (repeat (first | exact List.mem_cons_self | apply List.mem_cons_of_mem | apply List.mem_append_right)); exact rfl; exact rfl) | (apply ld_all hT; exact rfl; exact rfl; (repeat (first | exact List.mem_cons_self | apply List.mem_cons_of_mem | apply List.mem_append_right)); exact rfl))
    | (apply es_box; (iterate 5 exact rfl); intro _) | (apply es_alloc hT; (iterate 5 exact rfl); intro _)
    | (apply aw_condT; (iterate 2 exact rfl)) | (apply aw_condF; (iterate 2 exact rfl))
    | (apply es_case; exact rfl; all_goals intro hb; all_goals (fail_if_success (change true = true at hb)); all_goals (fail_if_success (change false = false at hb)); all_goals (try dsimp only at hb); all_goals (try simp only [hb]); all_goals (first | replace hb := of_decide_eq_true hb | replace hb := of_decide_eq_false hb | replace hb := bne_t hb | replace hb := bne_f hb | replace hb := eq_of_beq hb | replace hb := ne_of_beq_false hb | skip); all_goals (try (exfalso; omega)))
    | (apply aw_cond; exact rfl; all_goals intro hb; all_goals (try dsimp only at hb); all_goals (try simp only [hb]); all_goals (first | replace hb := of_decide_eq_true hb | replace hb := of_decide_eq_false hb | replace hb := bne_t hb | replace hb := bne_f hb | replace hb := eq_of_beq hb | replace hb := ne_of_beq_false hb | skip); all_goals (try (exfalso; omega))))
  refine aw_loopD (α := Nat) (E := fun k => [(0, .slice A l.length c), (3, .int .i64 k)]) (H := fun k => h') (μ := fun k => l.length - k)
    (S := fun k => k ≤ l.length ∧ ∀ (i j : Nat) f g, i < k → j < i → l[i]? = some f → l[j]? = some g → oneF g f) 0 ⟨Nat.zero_le _, fun i j f g hi => absurd hi (Nat.not_lt_zero _)⟩ ⟨rfl, rfl, trivial⟩ (by (repeat (first | exact dt_end | (apply dt_cons; · (repeat (first | exact sel0 | apply selS | apply selApp))) | apply dt_skip | apply dt_both))) ?_
  rintro k ⟨hk, hgd⟩
  by_cases hlt : k < l.length
  · obtain ⟨x, hx⟩ : ∃ x, l[k]? = some x := ⟨l[k]'(by omega), List.getElem?_eq_getElem (by omega)⟩
    have hx2 : l[(k : Int).toNat]? = some x := by simpa using hx
    have hA' := hA (by omega)
    have hd1 : decide ((k : Int) < (l.length : Int)) = true := by simp; omega
    repeat' (first
      | apply aw_seq | apply aw_region | apply aw_ret | apply aw_skip | apply aw_exit | apply aw_block | apply es_nil
      | (apply es_pure hT; (iterate 4 exact rfl)) | (apply es_skip; (iterate 3 exact rfl)) | (apply es_skip0; (iterate 2 exact rfl))
      | (apply es_i64 hT; (iterate 4 exact rfl); (iterate 2 (first | omega | (dsimp only; omega))))
      | (apply aw_draw [] [] hmix; decide +kernel)
      | (apply es_load; (iterate 5 exact rfl); first | (apply ld_blk hT; exact rfl; exact rfl; (repeat (first | exact List.mem_cons_self | apply List.mem_cons_of_mem | apply List.mem_append_right)); exact rfl; exact rfl) | (apply ld_all hT; exact rfl; exact rfl; (repeat (first | exact List.mem_cons_self | apply List.mem_cons_of_mem | apply List.mem_append_right)); exact rfl))
      | (apply es_box; (iterate 5 exact rfl); intro _) | (apply es_alloc hT; (iterate 5 exact rfl); intro _)
      | (apply aw_condT; (iterate 2 exact rfl)) | (apply aw_condF; (iterate 2 exact rfl))
      | (apply es_case; exact rfl; all_goals intro hb; all_goals (fail_if_success (change true = true at hb)); all_goals (fail_if_success (change false = false at hb)); all_goals (try dsimp only at hb); all_goals (try simp only [hb]); all_goals (first | replace hb := of_decide_eq_true hb | replace hb := of_decide_eq_false hb | replace hb := bne_t hb | replace hb := bne_f hb | replace hb := eq_of_beq hb | replace hb := ne_of_beq_false hb | skip); all_goals (try (exfalso; omega)))
      | (apply aw_cond; exact rfl; all_goals intro hb; all_goals (try dsimp only at hb); all_goals (try simp only [hb]); all_goals (first | replace hb := of_decide_eq_true hb | replace hb := of_decide_eq_false hb | replace hb := bne_t hb | replace hb := bne_f hb | replace hb := eq_of_beq hb | replace hb := ne_of_beq_false hb | skip); all_goals (try (exfalso; omega))))
    all_goals try (exfalso; omega)
    refine aw_loopD (α := Nat) (E := fun j => [(0, .slice A l.length c), (3, .int .i64 k), (4, .int .i64 j)]) (H := fun _ => h') (μ := fun j => k - j)
      (S := fun j => j ≤ k ∧ ∀ (i : Nat) g, i < j → l[i]? = some g → oneF g x) 0 ⟨Nat.zero_le _, fun i g hi => absurd hi (Nat.not_lt_zero _)⟩ ⟨rfl, rfl, rfl, trivial⟩ (by (repeat (first | exact dt_end | (apply dt_cons; · (repeat (first | exact sel0 | apply selS | apply selApp))) | apply dt_skip | apply dt_both))) ?_
    rintro j ⟨hj, hgj⟩
    by_cases hlj : j < k
    · obtain ⟨y, hy⟩ : ∃ y, l[j]? = some y := ⟨l[j]'(by omega), List.getElem?_eq_getElem (by omega)⟩
      have hy2 : l[(j : Int).toNat]? = some y := by simpa using hy
      have hd2 : decide ((j : Int) < (k : Int)) = true := by simp; omega
      have hne := eqFrame x y
      by_cases ho : oneF y x
      · have hgj' : ∀ (i : Nat) g, i < j + 1 → l[i]? = some g → oneF g x := fun i g hi hg => by
          by_cases e : i = j
          · rw [e, hy] at hg; cases hg; exact ho
          · exact hgj i g (by omega) hg
        by_cases hxy : x = y
        · rw [decide_eq_true hxy] at hne
          repeat' (first
            | apply aw_seq | apply aw_region | apply aw_ret | apply aw_skip | apply aw_exit | apply aw_block | apply es_nil
            | (apply es_pure hT; (iterate 4 exact rfl)) | (apply es_skip; (iterate 3 exact rfl)) | (apply es_skip0; (iterate 2 exact rfl))
            | (apply es_i64 hT; (iterate 4 exact rfl); (iterate 2 (first | omega | (dsimp only; omega))))
            | (apply aw_draw [] [] hmix; decide +kernel)
            | (apply es_idx hT; (iterate 8 exact rfl); (iterate 2 omega); exact hA')
            | (apply es_load; (iterate 5 exact rfl); first | exact ld_elem hT rfl rfl hrd FrameR.enc_len rfl hx2 rfl | exact ld_elem hT rfl rfl hrd FrameR.enc_len rfl hy2 rfl | exact ld_fld hT rfl rfl hrd FrameR.enc_len (adr_add _ _ _) hx2 (by decide) rfl | exact ld_fld hT rfl rfl hrd FrameR.enc_len (adr_add _ _ _) hy2 (by decide) rfl)
            | (apply es_neT hT; (iterate 5 exact rfl); exact hne; decide; exact heldFM; exact sOKFrame.2)
            | (apply es_load; (iterate 5 exact rfl); first | (apply ld_blk hT; exact rfl; exact rfl; (repeat (first | exact List.mem_cons_self | apply List.mem_cons_of_mem | apply List.mem_append_right)); exact rfl; exact rfl) | (apply ld_all hT; exact rfl; exact rfl; (repeat (first | exact List.mem_cons_self | apply List.mem_cons_of_mem | apply List.mem_append_right)); exact rfl))
            | (apply es_box; (iterate 5 exact rfl); intro _) | (apply es_alloc hT; (iterate 5 exact rfl); intro _)
            | (apply aw_condT; (iterate 2 exact rfl)) | (apply aw_condF; (iterate 2 exact rfl))
            | (apply es_case; exact rfl; all_goals intro hb; all_goals (fail_if_success (change true = true at hb)); all_goals (fail_if_success (change false = false at hb)); all_goals (try dsimp only at hb); all_goals (try simp only [hb]); all_goals (first | replace hb := of_decide_eq_true hb | replace hb := of_decide_eq_false hb | replace hb := bne_t hb | replace hb := bne_f hb | replace hb := eq_of_beq hb | replace hb := ne_of_beq_false hb | skip); all_goals (try (exfalso; omega)))
            | (apply aw_cond; exact rfl; all_goals intro hb; all_goals (try dsimp only at hb); all_goals (try simp only [hb]); all_goals (first | replace hb := of_decide_eq_true hb | replace hb := of_decide_eq_false hb | replace hb := bne_t hb | replace hb := bne_f hb | replace hb := eq_of_beq hb | replace hb := ne_of_beq_false hb | skip); all_goals (try (exfalso; omega))))
          all_goals first
            | (exfalso; omega)
            | exact loopq_end (j + 1) (by (try dsimp only); omega) ⟨by (try dsimp only); omega, hgj'⟩ ⟨rfl, rfl, rfl, trivial⟩ (by (repeat (first | exact dt_end | (apply dt_cons; · (repeat (first | exact sel0 | apply selS | apply selApp))) | apply dt_skip | apply dt_both)))
            | skip
        · rw [decide_eq_false hxy] at hne
          have hs : ¬ (x.seq ≠ 0 ∧ x.seq = y.seq) := fun ⟨a, b⟩ => hxy (ho a b)
          repeat' (first
            | apply aw_seq | apply aw_region | apply aw_ret | apply aw_skip | apply aw_exit | apply aw_block | apply es_nil
            | (apply es_pure hT; (iterate 4 exact rfl)) | (apply es_skip; (iterate 3 exact rfl)) | (apply es_skip0; (iterate 2 exact rfl))
            | (apply es_i64 hT; (iterate 4 exact rfl); (iterate 2 (first | omega | (dsimp only; omega))))
            | (apply aw_draw [] [] hmix; decide +kernel)
            | (apply es_idx hT; (iterate 8 exact rfl); (iterate 2 omega); exact hA')
            | (apply es_load; (iterate 5 exact rfl); first | exact ld_elem hT rfl rfl hrd FrameR.enc_len rfl hx2 rfl | exact ld_elem hT rfl rfl hrd FrameR.enc_len rfl hy2 rfl | exact ld_fld hT rfl rfl hrd FrameR.enc_len (adr_add _ _ _) hx2 (by decide) rfl | exact ld_fld hT rfl rfl hrd FrameR.enc_len (adr_add _ _ _) hy2 (by decide) rfl)
            | (apply es_neT hT; (iterate 5 exact rfl); exact hne; decide; exact heldFM; exact sOKFrame.2)
            | (apply es_load; (iterate 5 exact rfl); first | (apply ld_blk hT; exact rfl; exact rfl; (repeat (first | exact List.mem_cons_self | apply List.mem_cons_of_mem | apply List.mem_append_right)); exact rfl; exact rfl) | (apply ld_all hT; exact rfl; exact rfl; (repeat (first | exact List.mem_cons_self | apply List.mem_cons_of_mem | apply List.mem_append_right)); exact rfl))
            | (apply es_box; (iterate 5 exact rfl); intro _) | (apply es_alloc hT; (iterate 5 exact rfl); intro _)
            | (apply aw_condT; (iterate 2 exact rfl)) | (apply aw_condF; (iterate 2 exact rfl))
            | (apply es_case; exact rfl; all_goals intro hb; all_goals (fail_if_success (change true = true at hb)); all_goals (fail_if_success (change false = false at hb)); all_goals (try dsimp only at hb); all_goals (try simp only [hb]); all_goals (first | replace hb := of_decide_eq_true hb | replace hb := of_decide_eq_false hb | replace hb := bne_t hb | replace hb := bne_f hb | replace hb := eq_of_beq hb | replace hb := ne_of_beq_false hb | skip); all_goals (try (exfalso; omega)))
            | (apply aw_cond; exact rfl; all_goals intro hb; all_goals (try dsimp only at hb); all_goals (try simp only [hb]); all_goals (first | replace hb := of_decide_eq_true hb | replace hb := of_decide_eq_false hb | replace hb := bne_t hb | replace hb := bne_f hb | replace hb := eq_of_beq hb | replace hb := ne_of_beq_false hb | skip); all_goals (try (exfalso; omega))))
          all_goals first
            | (exfalso; omega)
            | exact loopq_end (j + 1) (by (try dsimp only); omega) ⟨by (try dsimp only); omega, hgj'⟩ ⟨rfl, rfl, rfl, trivial⟩ (by (repeat (first | exact dt_end | (apply dt_cons; · (repeat (first | exact sel0 | apply selS | apply selApp))) | apply dt_skip | apply dt_both)))
            | skip
      · have hxy : ¬ x = y := fun e => ho (fun _ _ => e)
        have h3 : x.seq ≠ 0 ∧ x.seq = y.seq := by
          by_cases a : x.seq = 0
          · exact absurd (fun h0 => absurd a h0) ho
          · by_cases b : x.seq = y.seq
            · exact ⟨a, b⟩
            · exact absurd (fun _ h1 => absurd h1 b) ho
        have hbad : steadyV l = false := steady_bad hx hy hlj h3.1 h3.2 hxy
        rw [decide_eq_false hxy] at hne
        repeat' (first
          | apply aw_seq | apply aw_region | apply aw_ret | apply aw_skip | apply aw_exit | apply aw_block | apply es_nil
          | (apply es_pure hT; (iterate 4 exact rfl)) | (apply es_skip; (iterate 3 exact rfl)) | (apply es_skip0; (iterate 2 exact rfl))
          | (apply es_i64 hT; (iterate 4 exact rfl); (iterate 2 (first | omega | (dsimp only; omega))))
          | (apply aw_draw [] [] hmix; decide +kernel)
          | (apply es_idx hT; (iterate 8 exact rfl); (iterate 2 omega); exact hA')
          | (apply es_load; (iterate 5 exact rfl); first | exact ld_elem hT rfl rfl hrd FrameR.enc_len rfl hx2 rfl | exact ld_elem hT rfl rfl hrd FrameR.enc_len rfl hy2 rfl | exact ld_fld hT rfl rfl hrd FrameR.enc_len (adr_add _ _ _) hx2 (by decide) rfl | exact ld_fld hT rfl rfl hrd FrameR.enc_len (adr_add _ _ _) hy2 (by decide) rfl)
          | (apply es_neT hT; (iterate 5 exact rfl); exact hne; decide; exact heldFM; exact sOKFrame.2)
          | (apply es_load; (iterate 5 exact rfl); first | (apply ld_blk hT; exact rfl; exact rfl; (repeat (first | exact List.mem_cons_self | apply List.mem_cons_of_mem | apply List.mem_append_right)); exact rfl; exact rfl) | (apply ld_all hT; exact rfl; exact rfl; (repeat (first | exact List.mem_cons_self | apply List.mem_cons_of_mem | apply List.mem_append_right)); exact rfl))
          | (apply es_box; (iterate 5 exact rfl); intro _) | (apply es_alloc hT; (iterate 5 exact rfl); intro _)
          | (apply aw_condT; (iterate 2 exact rfl)) | (apply aw_condF; (iterate 2 exact rfl))
          | (apply es_case; exact rfl; all_goals intro hb; all_goals (fail_if_success (change true = true at hb)); all_goals (fail_if_success (change false = false at hb)); all_goals (try dsimp only at hb); all_goals (try simp only [hb]); all_goals (first | replace hb := of_decide_eq_true hb | replace hb := of_decide_eq_false hb | replace hb := bne_t hb | replace hb := bne_f hb | replace hb := eq_of_beq hb | replace hb := ne_of_beq_false hb | skip); all_goals (try (exfalso; omega)))
          | (apply aw_cond; exact rfl; all_goals intro hb; all_goals (try dsimp only at hb); all_goals (try simp only [hb]); all_goals (first | replace hb := of_decide_eq_true hb | replace hb := of_decide_eq_false hb | replace hb := bne_t hb | replace hb := bne_f hb | replace hb := eq_of_beq hb | replace hb := ne_of_beq_false hb | skip); all_goals (try (exfalso; omega))))
        all_goals first
          | (exfalso; omega)
          | (apply ret1; exact rfl; exact ⟨by rw [hbad], by (repeat (first | exact dt_end | (apply dt_cons; · (repeat (first | exact sel0 | apply selS | apply selApp))) | apply dt_skip | apply dt_both))⟩)
          | skip
    · obtain rfl : j = k := by omega
      have hd2 : decide ((j : Int) < (j : Int)) = false := by simp
      repeat' (first
        | apply aw_seq | apply aw_region | apply aw_ret | apply aw_skip | apply aw_exit | apply aw_block | apply es_nil
        | (apply es_pure hT; (iterate 4 exact rfl)) | (apply es_skip; (iterate 3 exact rfl)) | (apply es_skip0; (iterate 2 exact rfl))
        | (apply es_i64 hT; (iterate 4 exact rfl); (iterate 2 (first | omega | (dsimp only; omega))))
        | (apply aw_draw [] [] hmix; decide +kernel)
        | (apply es_load; (iterate 5 exact rfl); first | (apply ld_blk hT; exact rfl; exact rfl; (repeat (first | exact List.mem_cons_self | apply List.mem_cons_of_mem | apply List.mem_append_right)); exact rfl; exact rfl) | (apply ld_all hT; exact rfl; exact rfl; (repeat (first | exact List.mem_cons_self | apply List.mem_cons_of_mem | apply List.mem_append_right)); exact rfl))
        | (apply es_box; (iterate 5 exact rfl); intro _) | (apply es_alloc hT; (iterate 5 exact rfl); intro _)
        | (apply aw_condT; (iterate 2 exact rfl)) | (apply aw_condF; (iterate 2 exact rfl))
        | (apply es_case; exact rfl; all_goals intro hb; all_goals (fail_if_success (change true = true at hb)); all_goals (fail_if_success (change false = false at hb)); all_goals (try dsimp only at hb); all_goals (try simp only [hb]); all_goals (first | replace hb := of_decide_eq_true hb | replace hb := of_decide_eq_false hb | replace hb := bne_t hb | replace hb := bne_f hb | replace hb := eq_of_beq hb | replace hb := ne_of_beq_false hb | skip); all_goals (try (exfalso; omega)))
        | (apply aw_cond; exact rfl; all_goals intro hb; all_goals (try dsimp only at hb); all_goals (try simp only [hb]); all_goals (first | replace hb := of_decide_eq_true hb | replace hb := of_decide_eq_false hb | replace hb := bne_t hb | replace hb := bne_f hb | replace hb := eq_of_beq hb | replace hb := ne_of_beq_false hb | skip); all_goals (try (exfalso; omega))))
      all_goals first
        | (exfalso; omega)
        | exact loopq_end (j + 1) (by (try dsimp only); omega) ⟨by (try dsimp only); omega, fun i q f g hi hq hf hg => by
            by_cases e : i = j
            · rw [e, hx] at hf; cases hf; exact hgj q g (by omega) hg
            · exact hgd i q f g (by (try dsimp only at hi); omega) hq hf hg⟩ ⟨rfl, rfl, trivial⟩ (by (repeat (first | exact dt_end | (apply dt_cons; · (repeat (first | exact sel0 | apply selS | apply selApp))) | apply dt_skip | apply dt_both)))
        | skip
  · obtain rfl : k = l.length := by omega
    have hd1 : decide ((l.length : Int) < (l.length : Int)) = false := by simp
    have hgood : steadyV l = true := steady_all (fun i j f g hji hf hg => hgd i j f g (List.getElem?_eq_some_iff.1 hf).1 hji hf hg)
    repeat' (first
      | apply aw_seq | apply aw_region | apply aw_ret | apply aw_skip | apply aw_exit | apply aw_block | apply es_nil
      | (apply es_pure hT; (iterate 4 exact rfl)) | (apply es_skip; (iterate 3 exact rfl)) | (apply es_skip0; (iterate 2 exact rfl))
      | (apply es_i64 hT; (iterate 4 exact rfl); (iterate 2 (first | omega | (dsimp only; omega))))
      | (apply aw_draw [] [] hmix; decide +kernel)
      | (apply es_load; (iterate 5 exact rfl); first | (apply ld_blk hT; exact rfl; exact rfl; (repeat (first | exact List.mem_cons_self | apply List.mem_cons_of_mem | apply List.mem_append_right)); exact rfl; exact rfl) | (apply ld_all hT; exact rfl; exact rfl; (repeat (first | exact List.mem_cons_self | apply List.mem_cons_of_mem | apply List.mem_append_right)); exact rfl))
      | (apply es_box; (iterate 5 exact rfl); intro _) | (apply es_alloc hT; (iterate 5 exact rfl); intro _)
      | (apply aw_condT; (iterate 2 exact rfl)) | (apply aw_condF; (iterate 2 exact rfl))
      | (apply es_case; exact rfl; all_goals intro hb; all_goals (fail_if_success (change true = true at hb)); all_goals (fail_if_success (change false = false at hb)); all_goals (try dsimp only at hb); all_goals (try simp only [hb]); all_goals (first | replace hb := of_decide_eq_true hb | replace hb := of_decide_eq_false hb | replace hb := bne_t hb | replace hb := bne_f hb | replace hb := eq_of_beq hb | replace hb := ne_of_beq_false hb | skip); all_goals (try (exfalso; omega)))
      | (apply aw_cond; exact rfl; all_goals intro hb; all_goals (try dsimp only at hb); all_goals (try simp only [hb]); all_goals (first | replace hb := of_decide_eq_true hb | replace hb := of_decide_eq_false hb | replace hb := bne_t hb | replace hb := bne_f hb | replace hb := eq_of_beq hb | replace hb := ne_of_beq_false hb | skip); all_goals (try (exfalso; omega))))
    all_goals first
      | (exfalso; omega)
      | (apply ret1; exact rfl; exact ⟨by rw [hgood], by (repeat (first | exact dt_end | (apply dt_cons; · (repeat (first | exact sel0 | apply selS | apply selApp))) | apply dt_skip | apply dt_both))⟩)
      | skip
end Go.Proofs.Ytjcnaeengplcbaa

set_option linter.unusedSimpArgs false
set_option linter.unusedVariables false
namespace Go.Proofs.Ytjcnaeengplcbaa
open Go Go.Sl
attribute [local irreducible] AW ES EP Ld RetQ
set_option maxRecDepth 100000

theorem law_Steady (W : World) (A0 : Option Addr) (c0 : Nat) (l : List FrameR) (hr0 : Reads W [] A0 l.length 8 (l.flatMap FrameR.enc)) :
    FSpec Try.prog W 4 [.slice A0 l.length c0] [] (fun v _ => v = .bool true) := by
  refine spec_body Try.func4 rfl rfl Try.results4 Try.ntmps4 rfl rfl ?_
  by_cases hg : l.length ≤ 60
  rotate_left
  · repeat' (first
      | apply aw_seq | apply aw_region | apply aw_ret | apply aw_skip | apply aw_exit | apply aw_block | apply es_nil
      | (apply es_pure hT; (iterate 4 exact rfl)) | (apply es_skip; (iterate 3 exact rfl)) | (apply es_skip0; (iterate 2 exact rfl))
      | (apply es_i64 hT; (iterate 4 exact rfl); (iterate 2 (first | omega | (dsimp only; omega))))
      | (apply aw_draw [] [] hmix; decide +kernel)
      | (apply es_load; (iterate 5 exact rfl); first | (apply ld_blk hT; exact rfl; exact rfl; (repeat (first | exact List.mem_cons_self | apply List.mem_cons_of_mem | apply List.mem_append_right)); exact rfl; exact rfl) | (apply ld_all hT; exact rfl; exact rfl; (repeat (first | exact List.mem_cons_self | apply List.mem_cons_of_mem | apply List.mem_append_right)); exact rfl))
      | (apply es_box; (iterate 5 exact rfl); intro _) | (apply es_alloc hT; (iterate 5 exact rfl); intro _)
      | (apply aw_condT; (iterate 2 exact rfl)) | (apply aw_condF; (iterate 2 exact rfl))
      | (apply es_case; exact rfl; all_goals intro hb; all_goals (fail_if_success (change true = true at hb)); all_goals (fail_if_success (change false = false at hb)); all_goals (try dsimp only at hb); all_goals (try simp only [hb]); all_goals (first | replace hb := of_decide_eq_true hb | replace hb := of_decide_eq_false hb | replace hb := bne_t hb | replace hb := bne_f hb | replace hb := eq_of_beq hb | replace hb := ne_of_beq_false hb | skip); all_goals (try (exfalso; omega)))
      | (apply aw_cond; exact rfl; all_goals intro hb; all_goals (try dsimp only at hb); all_goals (try simp only [hb]); all_goals (first | replace hb := of_decide_eq_true hb | replace hb := of_decide_eq_false hb | replace hb := bne_t hb | replace hb := bne_f hb | replace hb := eq_of_beq hb | replace hb := ne_of_beq_false hb | skip); all_goals (try (exfalso; omega))))
    all_goals first
      | (exfalso; omega)
      | (apply ret1; exact rfl; exact rfl)
      | skip
  · have h1 := audit_Steady W [] A0 c0 l hr0 (by omega)
    have h2 := ref27_Steady W [] A0 c0 l hr0 (by omega)
    have h3 := known27 W
    generalize steadyV l = v at *
    cases v
    · repeat' (first
        | apply aw_seq | apply aw_region | apply aw_ret | apply aw_skip | apply aw_exit | apply aw_block | apply es_nil
        | (apply es_pure hT; (iterate 4 exact rfl)) | (apply es_skip; (iterate 3 exact rfl)) | (apply es_skip0; (iterate 2 exact rfl))
        | (apply es_i64 hT; (iterate 4 exact rfl); (iterate 2 (first | omega | (dsimp only; omega))))
        | (apply aw_draw [] [] hmix; decide +kernel)
        | (apply es_callQ (hs := h1); (iterate 7 exact rfl))
        | (apply es_callQ (hs := h2); (iterate 7 exact rfl))
        | (apply es_callQ (hs := h3); (iterate 7 exact rfl))
        | (apply es_load; (iterate 5 exact rfl); first | (apply ld_blk hT; exact rfl; exact rfl; (repeat (first | exact List.mem_cons_self | apply List.mem_cons_of_mem | apply List.mem_append_right)); exact rfl; exact rfl) | (apply ld_all hT; exact rfl; exact rfl; (repeat (first | exact List.mem_cons_self | apply List.mem_cons_of_mem | apply List.mem_append_right)); exact rfl))
        | (apply es_box; (iterate 5 exact rfl); intro _) | (apply es_alloc hT; (iterate 5 exact rfl); intro _)
        | (apply aw_condT; (iterate 2 exact rfl)) | (apply aw_condF; (iterate 2 exact rfl))
        | (apply es_case; exact rfl; all_goals intro hb; all_goals (fail_if_success (change true = true at hb)); all_goals (fail_if_success (change false = false at hb)); all_goals (try dsimp only at hb); all_goals (try simp only [hb]); all_goals (first | replace hb := of_decide_eq_true hb | replace hb := of_decide_eq_false hb | replace hb := bne_t hb | replace hb := bne_f hb | replace hb := eq_of_beq hb | replace hb := ne_of_beq_false hb | skip); all_goals (try (exfalso; omega)))
        | (apply aw_cond; exact rfl; all_goals intro hb; all_goals (try dsimp only at hb); all_goals (try simp only [hb]); all_goals (first | replace hb := of_decide_eq_true hb | replace hb := of_decide_eq_false hb | replace hb := bne_t hb | replace hb := bne_f hb | replace hb := eq_of_beq hb | replace hb := ne_of_beq_false hb | skip); all_goals (try (exfalso; omega))))
      all_goals first
        | (exfalso; omega)
        | (apply ret1; exact rfl; exact rfl)
        | skip
    · repeat' (first
        | apply aw_seq | apply aw_region | apply aw_ret | apply aw_skip | apply aw_exit | apply aw_block | apply es_nil
        | (apply es_pure hT; (iterate 4 exact rfl)) | (apply es_skip; (iterate 3 exact rfl)) | (apply es_skip0; (iterate 2 exact rfl))
        | (apply es_i64 hT; (iterate 4 exact rfl); (iterate 2 (first | omega | (dsimp only; omega))))
        | (apply aw_draw [] [] hmix; decide +kernel)
        | (apply es_callQ (hs := h1); (iterate 7 exact rfl))
        | (apply es_callQ (hs := h2); (iterate 7 exact rfl))
        | (apply es_callQ (hs := h3); (iterate 7 exact rfl))
        | (apply es_load; (iterate 5 exact rfl); first | (apply ld_blk hT; exact rfl; exact rfl; (repeat (first | exact List.mem_cons_self | apply List.mem_cons_of_mem | apply List.mem_append_right)); exact rfl; exact rfl) | (apply ld_all hT; exact rfl; exact rfl; (repeat (first | exact List.mem_cons_self | apply List.mem_cons_of_mem | apply List.mem_append_right)); exact rfl))
        | (apply es_box; (iterate 5 exact rfl); intro _) | (apply es_alloc hT; (iterate 5 exact rfl); intro _)
        | (apply aw_condT; (iterate 2 exact rfl)) | (apply aw_condF; (iterate 2 exact rfl))
        | (apply es_case; exact rfl; all_goals intro hb; all_goals (fail_if_success (change true = true at hb)); all_goals (fail_if_success (change false = false at hb)); all_goals (try dsimp only at hb); all_goals (try simp only [hb]); all_goals (first | replace hb := of_decide_eq_true hb | replace hb := of_decide_eq_false hb | replace hb := bne_t hb | replace hb := bne_f hb | replace hb := eq_of_beq hb | replace hb := ne_of_beq_false hb | skip); all_goals (try (exfalso; omega)))
        | (apply aw_cond; exact rfl; all_goals intro hb; all_goals (try dsimp only at hb); all_goals (try simp only [hb]); all_goals (first | replace hb := of_decide_eq_true hb | replace hb := of_decide_eq_false hb | replace hb := bne_t hb | replace hb := bne_f hb | replace hb := eq_of_beq hb | replace hb := ne_of_beq_false hb | skip); all_goals (try (exfalso; omega))))
      all_goals first
        | (exfalso; omega)
        | (apply ret1; exact rfl; exact rfl)
        | skip
end Go.Proofs.Ytjcnaeengplcbaa

set_option linter.unusedSimpArgs false
set_option linter.unusedVariables false
namespace Go.Proofs.Ytjcnaeengplcbaa
namespace auditSteady
open Go Go.Sl Go.ChangeShapes Go.WideShapes Go.ChangeAt Go.RowKit
theorem own : ownKnob Try.prog.godebug = none := by kernel_rfl
theorem laidOut : laidOutB Try.prog = true := by kernel_rfl
set_option maxRecDepth 100000 in
theorem lifted (os : Os) (started : os.Started) (H : Type) (enc : TypeId × Value → H) :
    ReturnsInHanded {} Try.checked os 4 .any (Rows.auditSteadySpec.pre6 enc Try.prog Try.f4 Rows.auditSteadyRow.domain false) (Rows.auditSteadySpec.post enc Try.prog Try.f4 false true false false) := by
  refine returnsInHanded_of_change (C := Try.checked) own started (by kernel_rfl) Try.func4
    (ChangeSpec.witness6 (enc := enc) (C := Try.checked) false ⟨#[], #[.slice none 0 0], []⟩ 8 (by kernel_rfl) (by kernel_rfl) (by kernel_rfl) (by kernel_rfl)) ?_
  intro W base args ds gs before hval0 hW hcnd _
  have hval : ∀ (j : Nat) t v, Try.f4.params[j]? = some t → args[j]? = some v → Value.okWide Try.prog W .any base t v := hval0
  have hW' := hW
  obtain ⟨p, q, hA0, hV, rfl, hfz, hnd⟩ := hW
  have hA : DataW.TrodAll enc Try.prog W 0 (fun _ => true) true Try.f4.params.toList args.toList ds p := hA0
  obtain ⟨rfl, rfl⟩ := trodVars_none hV
  simp only [List.append_nil] at hW'
  have hA1 := hA
  rw [Try.params4] at hA1 hval
  obtain ⟨v0, vs0, d0, ds0, p0, q0, hargs, rfl, rfl, h0, r0⟩ := trodAll_cons hA1
  obtain ⟨rfl, rfl, rfl⟩ := trodAll_nil r0
  obtain rfl : args = #[v0] := by cases args; simp_all
  obtain ⟨A0, c0, l0, rfl, hc0, ok0, hr0⟩ := open_rows (W := W) 8 Try.underlying28 (by kernel_rfl) (by kernel_rfl) decFrameR (hval 0 28 v0 rfl rfl) h0
  refine (FSpec.row (law_Steady W A0 c0 l0 hr0) (fun _ _ h => h)).mono fun e W' ⟨he, hb⟩ => ?_
  subst he
  exact ⟨_, rfl, law_post hW' hA laidOut (by kernel_rfl) rfl rfl Try.underlying4 rfl rfl rfl hb⟩
theorem named : Try.prog.funcNamed Rows.auditSteadyRow.func = some 4 := by kernel_rfl
set_option maxRecDepth 100000 in
set_option maxHeartbeats 8000000 in
theorem closed : joinedFacts Try.prog 4 Try.f4 Rows.auditSteadySpec Rows.auditSteadyRow = true := by
  unfold joinedFacts
  simp only [Bool.and_eq_true]
  repeat' apply And.intro
  all_goals decide +kernel
theorem inst : Try.f4.isInstance Try.prog Rows.auditSteadyRow.origin Rows.auditSteadyRow.targs := of_decide_eq_true (by kernel_rfl)
theorem over : Rows.auditSteadyRow.holds Try.pinned (OpenSpec.ofChange Rows.auditSteadySpec) :=
  OpenClaim.holds_of_wide 4 Try.f4 rfl rfl rfl rfl rfl rfl rfl ⟨rfl, rfl, rfl, rfl, rfl⟩ rfl rfl rfl rfl rfl named Try.func4 closed
    inst (by unfold Func.isWrapper; first | (rw [if_pos (by decide +kernel)]; kernel_rfl) | (rw [if_neg (by decide +kernel)]; exact ⟨rfl, rfl⟩))
    (fun os started H enc _ => lifted os started H enc)
end auditSteady
/-- the statement -/
theorem auditSteady_holds : Rows.AuditSteadySaid := auditSteady.over
#print axioms auditSteady_holds
end Go.Proofs.Ytjcnaeengplcbaa


