/- What a row of what is due in the arguments reads as. No condition of its own. -/
import Derived.Test.YtmoglacdddinjaaDueW
import Derived.Test.YtmoglacdddinjaaRow
namespace Go.Proofs.Ytmoglacdddinjaa
open Go Go.Sl
theorem decDue (vs : List Value) (h : FitsL [.int .i64, .int .i64, .int .i64] vs) : ∃ x : Due, Due.enc x = vs ∧ Due.ok x := by
  have hlen : vs.length = 3 := h.len
  match vs, hlen, h with
  | [u1, u2, u3], _, h =>
    have h1 := h.1
    have h2 := h.2.1
    have h3 := h.2.2.1
    obtain ⟨a, ha, wa⟩ := h1
    obtain ⟨b, hb, wb⟩ := h2
    obtain ⟨c, hc, wc⟩ := h3
    exact ⟨⟨a, b, c⟩, by rw [ha, hb, hc]; rfl, wf_i64 wa, wf_i64 wb, wf_i64 wc⟩
theorem decInt (vs : List Value) (h : FitsL [.int .i64] vs) : ∃ x : Int, encI x = vs ∧ I64 x := by
  have hlen : vs.length = 1 := h.len
  match vs, hlen, h with
  | [u1], _, h =>
    obtain ⟨a, ha, wa⟩ := h.1
    exact ⟨a, by rw [ha]; rfl, wf_i64 wa⟩
end Go.Proofs.Ytmoglacdddinjaa
