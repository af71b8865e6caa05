/-
  No cell of these rows narrows 'for every input' (looked for: loops, veiled, ifaces, maps, wideKeys, modest, calm, conditions, laid).
  DERIVED. THE GIVEN ROWS OF THIS SEAT. 2 by the template 'for every input the law returns true; each argument reads behind the call as it read before'; 0 by the template 'total and deterministic' (their statements: YtjcnaeengplcbaaTotals.lean).
  GIVEN WITH THE SEED: the statements are not yours to turn. If you find one false, say at which input.
  Laid BY PROGRAM, IN A SANDBOX (cutbox-rows.mjs): the forced cells as the released guide's own fill.sh prints them over the translation 82cad615dadfdc9c… (all of the seat's roots in one cut). By AI agents, Wed Nov 11 2026. No macro, syntax, notation, axiom, sorry.
-/
import Derived.Test.YtjcnaeengplcbaaChecked
import GoSem.Claim
import GoSem.ClaimJoined
import GoSem.ClaimMapViews
import Derived.JoinedTies
import Derived.KernelRfl
namespace Go.Proofs.Ytjcnaeengplcbaa
/- THE CELL 'sum', in the pinned program and in every row, IS THE sha256 OF THE DUMP (.gsa) THAT YtjcnaeengplcbaaProg.lean LOADS. Nothing in Lean hashes anything: it is a label: what it is worth is what the hold of that sum in a sandbox is worth. -/
noncomputable def Try.pinned : Pinned := { name := "ytjcnaeengplcbaa", sum := "82cad615dadfdc9c850411a6150b48e33dcbb180b7fb45ed109d8c716c912871", checked := Try.checked }
namespace Rows
def none {H : Type} : Left H := { results := [], args := [] }

/-- 'consolslaw27.AuditEnded': WHATEVER THE INPUT: true; the input reads as it did. -/
def auditEndedSpec : ChangeSpec := { name := "auditEnded", fn := fun _ => fun
  | [d1, d2, d3] => { results := [.lit (.bool true)], args := [d1, d2, d3] }
  | _ => none }
def auditEndedRow : OpenClaim := { program := "ytjcnaeengplcbaa", sum := "82cad615dadfdc9c850411a6150b48e33dcbb180b7fb45ed109d8c716c912871", func := "consols/consolslaw27.AuditEnded", spec := "auditEnded", unfollowed := true, recurses := true, apart := false }
def AuditEndedSaid : Prop := auditEndedRow.holds Try.pinned (OpenSpec.ofChange auditEndedSpec)

/-- ITS FALSE NEIGHBOUR: 'it returns false'. Refute it at one input. -/
def auditEndedWrong : ChangeSpec := { name := "auditEnded", fn := fun _ => fun
  | [d1, d2, d3] => { results := [.lit (.bool false)], args := [d1, d2, d3] }
  | _ => none }
def AuditEndedWrongFalsely : Prop := auditEndedRow.holds Try.pinned (OpenSpec.ofChange auditEndedWrong)

/-- 'consolslaw27.AuditSteady': WHATEVER THE INPUT: true; the input reads as it did. -/
def auditSteadySpec : ChangeSpec := { name := "auditSteady", fn := fun _ => fun
  | [d] => { results := [.lit (.bool true)], args := [d] }
  | _ => none }
def auditSteadyRow : OpenClaim := { program := "ytjcnaeengplcbaa", sum := "82cad615dadfdc9c850411a6150b48e33dcbb180b7fb45ed109d8c716c912871", func := "consols/consolslaw27.AuditSteady", spec := "auditSteady", unfollowed := true, recurses := true, apart := false }
def AuditSteadySaid : Prop := auditSteadyRow.holds Try.pinned (OpenSpec.ofChange auditSteadySpec)

/-- ITS FALSE NEIGHBOUR: 'it returns false'. Refute it at one input. -/
def auditSteadyWrong : ChangeSpec := { name := "auditSteady", fn := fun _ => fun
  | [d] => { results := [.lit (.bool false)], args := [d] }
  | _ => none }
def AuditSteadyWrongFalsely : Prop := auditSteadyRow.holds Try.pinned (OpenSpec.ofChange auditSteadyWrong)

/- THE SECOND FORM. 'bulk': how many values and letters a reading holds, each counted each time it is reached (what is shared counts as often as it is met; a slice's spare places count too). A statement '..UptoSaid' is the law's where the arguments, and the package variables that the reading takes, are together of bulk at most 1048576: NARROWER than '..Said'. Prove '..Said' where nothing that the law and all that it calls make is longer than what came in: it says more and counts as full. Else prove '..UptoSaid'. A law counts once. -/
mutual
def uptoBulk {H : Type} : DataW H → Nat
  | .lit (.string bytes) => bytes.length + 1
  | .lit _ => 1
  | .nil => 1
  | .ptr d => uptoBulk d + 1
  | .slice elems spare => uptoBulkAll elems + uptoBulkAll spare + 1
  | .agg parts => uptoBulkAll parts + 1
  | .iface _ d => uptoBulk d + 1
  | .map entries => uptoBulkEntries entries + 1
  | .held _ => 1
def uptoBulkAll {H : Type} : List (DataW H) → Nat
  | [] => 0
  | d :: r => uptoBulk d + uptoBulkAll r
def uptoBulkEntries {H : Type} : List (Lit × DataW H) → Nat
  | [] => 0
  | x :: r => uptoBulkEntry x + uptoBulkEntries r
def uptoBulkEntry {H : Type} : Lit × DataW H → Nat
  | (.string bytes, d) => bytes.length + uptoBulk d + 1
  | (_, d) => uptoBulk d + 1
 end
def uptoSmall : (H : Type) → List (DataW H) → Bool := fun _ ds => decide (uptoBulkAll ds ≤ 1048576)
def OpenSpec.upto (s : _root_.Go.ChangeSpec) : _root_.Go.OpenSpec := { _root_.Go.OpenSpec.ofChange s with cond := some uptoSmall }

/-- 'consolslaw27.AuditEnded', WHERE WHAT IT READS IS OF BULK AT MOST 1048576: true; the input reads as it did. -/
def auditEndedUptoRow : OpenClaim := { program := "ytjcnaeengplcbaa", sum := "82cad615dadfdc9c850411a6150b48e33dcbb180b7fb45ed109d8c716c912871", func := "consols/consolslaw27.AuditEnded", spec := "auditEnded", unfollowed := true, recurses := true, apart := false, narrowed := true }
def AuditEndedUptoSaid : Prop := auditEndedUptoRow.holds Try.pinned (OpenSpec.upto auditEndedSpec)

/-- 'consolslaw27.AuditSteady', WHERE WHAT IT READS IS OF BULK AT MOST 1048576: true; the input reads as it did. -/
def auditSteadyUptoRow : OpenClaim := { program := "ytjcnaeengplcbaa", sum := "82cad615dadfdc9c850411a6150b48e33dcbb180b7fb45ed109d8c716c912871", func := "consols/consolslaw27.AuditSteady", spec := "auditSteady", unfollowed := true, recurses := true, apart := false, narrowed := true }
def AuditSteadyUptoSaid : Prop := auditSteadyUptoRow.holds Try.pinned (OpenSpec.upto auditSteadySpec)

end Rows
end Go.Proofs.Ytjcnaeengplcbaa
