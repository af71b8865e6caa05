/- What a script of acts on what is due reads as. No condition of its own. -/
import Derived.Test.YtmoglacdddinjaaDueP
import Derived.Test.YtmoglacdddinjaaDueD
namespace Go.Proofs.Ytmoglacdddinjaa
open Go Go.Sl
theorem decAct11 (vs : List Value) (h : FitsL [.int .i64, .int .i64, .int .i64, .int .i64] vs) : ∃ x : Act11, Act11.enc x = vs ∧ True := by
  have hlen : vs.length = 4 := h.len
  match vs, hlen, h with
  | [u0, u1, u2, u3], _, h =>
    obtain ⟨k, hk, _⟩ := h.1
    obtain ⟨a, ha, _⟩ := h.2.1
    obtain ⟨b, hb, _⟩ := h.2.2.1
    obtain ⟨c, hc, _⟩ := h.2.2.2.1
    exact ⟨⟨k, ⟨a, b, c⟩⟩, by rw [hk, ha, hb, hc]; rfl, trivial⟩
end Go.Proofs.Ytmoglacdddinjaa
