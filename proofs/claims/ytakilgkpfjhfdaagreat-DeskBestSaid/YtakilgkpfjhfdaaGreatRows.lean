/-
  No cell of these rows narrows 'for every input' (looked for: loops, veiled, ifaces, maps, wideKeys, modest, calm, conditions, laid).
  DERIVED. THE GIVEN ROWS OF THIS SEAT. 9 by the template 'for every input the law returns true; each argument reads behind the call as it read before'; 0 by the template 'total and deterministic' (their statements: YtakilgkpfjhfdaaGreatTotals.lean).
  GIVEN WITH THE SEED: the statements are not yours to turn. If you find one false, say at which input.
  Laid BY PROGRAM, IN A SANDBOX (cutbox-rows.mjs): the forced cells as the released guide's own fill.sh prints them over the translation 2b9f15471f15f23c… (all of the seat's roots in one cut). By AI agents, Wed Nov 11 2026. No macro, syntax, notation, axiom, sorry.
-/
import Derived.Test.YtakilgkpfjhfdaaGreatChecked
import GoSem.Claim
import GoSem.ClaimJoined
import GoSem.ClaimMapViews
import Derived.JoinedTies
import Derived.KernelRfl
namespace Go.Proofs.YtakilgkpfjhfdaaGreat
/- THE CELL 'sum', in the pinned program and in every row, IS THE sha256 OF THE DUMP (.gsa) THAT YtakilgkpfjhfdaaGreatProg.lean LOADS. Nothing in Lean hashes anything: it is a label: what it is worth is what the hold of that sum in a sandbox is worth. -/
noncomputable def Tryz.pinned : Pinned := { name := "ytakilgkpfjhfdaagreat", sum := "2b9f15471f15f23c07f689c1e02dd27c6d08f80ce69fe0c6f64d83dd2b4054aa", checked := Tryz.checked }
namespace Rows
def none {H : Type} : Left H := { results := [], args := [] }

/-- 'consolslaw23.DeskKnown': WHATEVER THE INPUT: true; the input reads as it did. -/
def deskKnownSpec : ChangeSpec := { name := "deskKnown", fn := fun _ => fun
  | [d] => { results := [.lit (.bool true)], args := [d] }
  | _ => none }
def deskKnownRow : OpenClaim := { program := "ytakilgkpfjhfdaagreat", sum := "2b9f15471f15f23c07f689c1e02dd27c6d08f80ce69fe0c6f64d83dd2b4054aa", func := "consols/consolslaw23.DeskKnown", spec := "deskKnown", inPlace := ["slices.overlaps[consols/api.Quote]", "slices.overlaps[consols/api.Due]", "math/bits.Add64", "slices.overlaps[consols/api.Ask]"], unfollowed := true, recurses := true, apart := false }
def DeskKnownSaid : Prop := deskKnownRow.holds Tryz.pinned (OpenSpec.ofChange deskKnownSpec)

/-- ITS FALSE NEIGHBOUR: 'it returns false'. Refute it at one input. -/
def deskKnownWrong : ChangeSpec := { name := "deskKnown", fn := fun _ => fun
  | [d] => { results := [.lit (.bool false)], args := [d] }
  | _ => none }
def DeskKnownWrongFalsely : Prop := deskKnownRow.holds Tryz.pinned (OpenSpec.ofChange deskKnownWrong)

/-- 'consolslaw23.DeskHalts': WHATEVER THE INPUT: true; the input reads as it did. -/
def deskHaltsSpec : ChangeSpec := { name := "deskHalts", fn := fun _ => fun
  | [d] => { results := [.lit (.bool true)], args := [d] }
  | _ => none }
def deskHaltsRow : OpenClaim := { program := "ytakilgkpfjhfdaagreat", sum := "2b9f15471f15f23c07f689c1e02dd27c6d08f80ce69fe0c6f64d83dd2b4054aa", func := "consols/consolslaw23.DeskHalts", spec := "deskHalts", inPlace := ["slices.overlaps[consols/api.Quote]", "slices.overlaps[consols/api.Due]", "math/bits.Add64", "slices.overlaps[consols/api.Ask]"], unfollowed := true, recurses := true, apart := false }
def DeskHaltsSaid : Prop := deskHaltsRow.holds Tryz.pinned (OpenSpec.ofChange deskHaltsSpec)

/-- ITS FALSE NEIGHBOUR: 'it returns false'. Refute it at one input. -/
def deskHaltsWrong : ChangeSpec := { name := "deskHalts", fn := fun _ => fun
  | [d] => { results := [.lit (.bool false)], args := [d] }
  | _ => none }
def DeskHaltsWrongFalsely : Prop := deskHaltsRow.holds Tryz.pinned (OpenSpec.ofChange deskHaltsWrong)

/-- 'consolslaw23.DeskBest': WHATEVER THE INPUT: true; the input reads as it did. -/
def deskBestSpec : ChangeSpec := { name := "deskBest", fn := fun _ => fun
  | [d1, d2, d3] => { results := [.lit (.bool true)], args := [d1, d2, d3] }
  | _ => none }
def deskBestRow : OpenClaim := { program := "ytakilgkpfjhfdaagreat", sum := "2b9f15471f15f23c07f689c1e02dd27c6d08f80ce69fe0c6f64d83dd2b4054aa", func := "consols/consolslaw23.DeskBest", spec := "deskBest", inPlace := ["slices.overlaps[consols/api.Quote]", "slices.overlaps[consols/api.Due]", "math/bits.Add64", "slices.overlaps[consols/api.Ask]"], unfollowed := true, recurses := true, apart := false }
def DeskBestSaid : Prop := deskBestRow.holds Tryz.pinned (OpenSpec.ofChange deskBestSpec)

/-- ITS FALSE NEIGHBOUR: 'it returns false'. Refute it at one input. -/
def deskBestWrong : ChangeSpec := { name := "deskBest", fn := fun _ => fun
  | [d1, d2, d3] => { results := [.lit (.bool false)], args := [d1, d2, d3] }
  | _ => none }
def DeskBestWrongFalsely : Prop := deskBestRow.holds Tryz.pinned (OpenSpec.ofChange deskBestWrong)

/-- 'consolslaw23.DeskChanges': WHATEVER THE INPUT: true; the input reads as it did. -/
def deskChangesSpec : ChangeSpec := { name := "deskChanges", fn := fun _ => fun
  | [d1, d2] => { results := [.lit (.bool true)], args := [d1, d2] }
  | _ => none }
def deskChangesRow : OpenClaim := { program := "ytakilgkpfjhfdaagreat", sum := "2b9f15471f15f23c07f689c1e02dd27c6d08f80ce69fe0c6f64d83dd2b4054aa", func := "consols/consolslaw23.DeskChanges", spec := "deskChanges", inPlace := ["slices.overlaps[consols/api.Quote]", "slices.overlaps[consols/api.Due]", "math/bits.Add64", "slices.overlaps[consols/api.Ask]"], unfollowed := true, recurses := true, apart := false }
def DeskChangesSaid : Prop := deskChangesRow.holds Tryz.pinned (OpenSpec.ofChange deskChangesSpec)

/-- ITS FALSE NEIGHBOUR: 'it returns false'. Refute it at one input. -/
def deskChangesWrong : ChangeSpec := { name := "deskChanges", fn := fun _ => fun
  | [d1, d2] => { results := [.lit (.bool false)], args := [d1, d2] }
  | _ => none }
def DeskChangesWrongFalsely : Prop := deskChangesRow.holds Tryz.pinned (OpenSpec.ofChange deskChangesWrong)

/-- 'consolslaw23.DeskGone': WHATEVER THE INPUT: true; the input reads as it did. -/
def deskGoneSpec : ChangeSpec := { name := "deskGone", fn := fun _ => fun
  | [d] => { results := [.lit (.bool true)], args := [d] }
  | _ => none }
def deskGoneRow : OpenClaim := { program := "ytakilgkpfjhfdaagreat", sum := "2b9f15471f15f23c07f689c1e02dd27c6d08f80ce69fe0c6f64d83dd2b4054aa", func := "consols/consolslaw23.DeskGone", spec := "deskGone", inPlace := ["slices.overlaps[consols/api.Quote]", "slices.overlaps[consols/api.Due]", "math/bits.Add64", "slices.overlaps[consols/api.Ask]"], unfollowed := true, recurses := true, apart := false }
def DeskGoneSaid : Prop := deskGoneRow.holds Tryz.pinned (OpenSpec.ofChange deskGoneSpec)

/-- ITS FALSE NEIGHBOUR: 'it returns false'. Refute it at one input. -/
def deskGoneWrong : ChangeSpec := { name := "deskGone", fn := fun _ => fun
  | [d] => { results := [.lit (.bool false)], args := [d] }
  | _ => none }
def DeskGoneWrongFalsely : Prop := deskGoneRow.holds Tryz.pinned (OpenSpec.ofChange deskGoneWrong)

/-- 'consolslaw23.DeskLook': WHATEVER THE INPUT: true; the input reads as it did. -/
def deskLookSpec : ChangeSpec := { name := "deskLook", fn := fun _ => fun
  | [d] => { results := [.lit (.bool true)], args := [d] }
  | _ => none }
def deskLookRow : OpenClaim := { program := "ytakilgkpfjhfdaagreat", sum := "2b9f15471f15f23c07f689c1e02dd27c6d08f80ce69fe0c6f64d83dd2b4054aa", func := "consols/consolslaw23.DeskLook", spec := "deskLook", inPlace := ["slices.overlaps[consols/api.Quote]", "slices.overlaps[consols/api.Due]", "math/bits.Add64", "slices.overlaps[consols/api.Ask]"], unfollowed := true, recurses := true, apart := false }
def DeskLookSaid : Prop := deskLookRow.holds Tryz.pinned (OpenSpec.ofChange deskLookSpec)

/-- ITS FALSE NEIGHBOUR: 'it returns false'. Refute it at one input. -/
def deskLookWrong : ChangeSpec := { name := "deskLook", fn := fun _ => fun
  | [d] => { results := [.lit (.bool false)], args := [d] }
  | _ => none }
def DeskLookWrongFalsely : Prop := deskLookRow.holds Tryz.pinned (OpenSpec.ofChange deskLookWrong)

/-- 'consolslaw23.DeskTimes': WHATEVER THE INPUT: true; the input reads as it did. -/
def deskTimesSpec : ChangeSpec := { name := "deskTimes", fn := fun _ => fun
  | [d1, d2, d3] => { results := [.lit (.bool true)], args := [d1, d2, d3] }
  | _ => none }
def deskTimesRow : OpenClaim := { program := "ytakilgkpfjhfdaagreat", sum := "2b9f15471f15f23c07f689c1e02dd27c6d08f80ce69fe0c6f64d83dd2b4054aa", func := "consols/consolslaw23.DeskTimes", spec := "deskTimes", inPlace := ["slices.overlaps[consols/api.Quote]", "slices.overlaps[consols/api.Due]", "math/bits.Add64", "slices.overlaps[consols/api.Ask]"], unfollowed := true, recurses := true, apart := false }
def DeskTimesSaid : Prop := deskTimesRow.holds Tryz.pinned (OpenSpec.ofChange deskTimesSpec)

/-- ITS FALSE NEIGHBOUR: 'it returns false'. Refute it at one input. -/
def deskTimesWrong : ChangeSpec := { name := "deskTimes", fn := fun _ => fun
  | [d1, d2, d3] => { results := [.lit (.bool false)], args := [d1, d2, d3] }
  | _ => none }
def DeskTimesWrongFalsely : Prop := deskTimesRow.holds Tryz.pinned (OpenSpec.ofChange deskTimesWrong)

/-- 'consolslaw23.DeskEnds': WHATEVER THE INPUT: true; the input reads as it did. -/
def deskEndsSpec : ChangeSpec := { name := "deskEnds", fn := fun _ => fun
  | [d1, d2] => { results := [.lit (.bool true)], args := [d1, d2] }
  | _ => none }
def deskEndsRow : OpenClaim := { program := "ytakilgkpfjhfdaagreat", sum := "2b9f15471f15f23c07f689c1e02dd27c6d08f80ce69fe0c6f64d83dd2b4054aa", func := "consols/consolslaw23.DeskEnds", spec := "deskEnds", inPlace := ["slices.overlaps[consols/api.Quote]", "slices.overlaps[consols/api.Due]", "math/bits.Add64", "slices.overlaps[consols/api.Ask]"], unfollowed := true, recurses := true, apart := false }
def DeskEndsSaid : Prop := deskEndsRow.holds Tryz.pinned (OpenSpec.ofChange deskEndsSpec)

/-- ITS FALSE NEIGHBOUR: 'it returns false'. Refute it at one input. -/
def deskEndsWrong : ChangeSpec := { name := "deskEnds", fn := fun _ => fun
  | [d1, d2] => { results := [.lit (.bool false)], args := [d1, d2] }
  | _ => none }
def DeskEndsWrongFalsely : Prop := deskEndsRow.holds Tryz.pinned (OpenSpec.ofChange deskEndsWrong)

/-- 'consolslaw23.DeskRejects': WHATEVER THE INPUT: true; the input reads as it did. -/
def deskRejectsSpec : ChangeSpec := { name := "deskRejects", fn := fun _ => fun
  | [d1, d2, d3, d4, d5] => { results := [.lit (.bool true)], args := [d1, d2, d3, d4, d5] }
  | _ => none }
def deskRejectsRow : OpenClaim := { program := "ytakilgkpfjhfdaagreat", sum := "2b9f15471f15f23c07f689c1e02dd27c6d08f80ce69fe0c6f64d83dd2b4054aa", func := "consols/consolslaw23.DeskRejects", spec := "deskRejects", inPlace := ["slices.overlaps[consols/api.Quote]", "slices.overlaps[consols/api.Due]", "math/bits.Add64", "slices.overlaps[consols/api.Ask]"], unfollowed := true, recurses := true, apart := false }
def DeskRejectsSaid : Prop := deskRejectsRow.holds Tryz.pinned (OpenSpec.ofChange deskRejectsSpec)

/-- ITS FALSE NEIGHBOUR: 'it returns false'. Refute it at one input. -/
def deskRejectsWrong : ChangeSpec := { name := "deskRejects", fn := fun _ => fun
  | [d1, d2, d3, d4, d5] => { results := [.lit (.bool false)], args := [d1, d2, d3, d4, d5] }
  | _ => none }
def DeskRejectsWrongFalsely : Prop := deskRejectsRow.holds Tryz.pinned (OpenSpec.ofChange deskRejectsWrong)

/- THE SECOND FORM. 'bulk': how many values and letters a reading holds, each counted each time it is reached (what is shared counts as often as it is met; a slice's spare places count too). A statement '..UptoSaid' is the law's where the arguments, and the package variables that the reading takes, are together of bulk at most 1048576: NARROWER than '..Said'. Prove '..Said' where nothing that the law and all that it calls make is longer than what came in: it says more and counts as full. Else prove '..UptoSaid'. A law counts once. -/
mutual
def uptoBulk {H : Type} : DataW H → Nat
  | .lit (.string bytes) => bytes.length + 1
  | .lit _ => 1
  | .nil => 1
  | .ptr d => uptoBulk d + 1
  | .slice elems spare => uptoBulkAll elems + uptoBulkAll spare + 1
  | .agg parts => uptoBulkAll parts + 1
  | .iface _ d => uptoBulk d + 1
  | .map entries => uptoBulkEntries entries + 1
  | .held _ => 1
def uptoBulkAll {H : Type} : List (DataW H) → Nat
  | [] => 0
  | d :: r => uptoBulk d + uptoBulkAll r
def uptoBulkEntries {H : Type} : List (Lit × DataW H) → Nat
  | [] => 0
  | x :: r => uptoBulkEntry x + uptoBulkEntries r
def uptoBulkEntry {H : Type} : Lit × DataW H → Nat
  | (.string bytes, d) => bytes.length + uptoBulk d + 1
  | (_, d) => uptoBulk d + 1
 end
def uptoSmall : (H : Type) → List (DataW H) → Bool := fun _ ds => decide (uptoBulkAll ds ≤ 1048576)
def OpenSpec.upto (s : _root_.Go.ChangeSpec) : _root_.Go.OpenSpec := { _root_.Go.OpenSpec.ofChange s with cond := some uptoSmall }

/-- 'consolslaw23.DeskKnown', WHERE WHAT IT READS IS OF BULK AT MOST 1048576: true; the input reads as it did. -/
def deskKnownUptoRow : OpenClaim := { program := "ytakilgkpfjhfdaagreat", sum := "2b9f15471f15f23c07f689c1e02dd27c6d08f80ce69fe0c6f64d83dd2b4054aa", func := "consols/consolslaw23.DeskKnown", spec := "deskKnown", inPlace := ["slices.overlaps[consols/api.Quote]", "slices.overlaps[consols/api.Due]", "math/bits.Add64", "slices.overlaps[consols/api.Ask]"], unfollowed := true, recurses := true, apart := false, narrowed := true }
def DeskKnownUptoSaid : Prop := deskKnownUptoRow.holds Tryz.pinned (OpenSpec.upto deskKnownSpec)

/-- 'consolslaw23.DeskHalts', WHERE WHAT IT READS IS OF BULK AT MOST 1048576: true; the input reads as it did. -/
def deskHaltsUptoRow : OpenClaim := { program := "ytakilgkpfjhfdaagreat", sum := "2b9f15471f15f23c07f689c1e02dd27c6d08f80ce69fe0c6f64d83dd2b4054aa", func := "consols/consolslaw23.DeskHalts", spec := "deskHalts", inPlace := ["slices.overlaps[consols/api.Quote]", "slices.overlaps[consols/api.Due]", "math/bits.Add64", "slices.overlaps[consols/api.Ask]"], unfollowed := true, recurses := true, apart := false, narrowed := true }
def DeskHaltsUptoSaid : Prop := deskHaltsUptoRow.holds Tryz.pinned (OpenSpec.upto deskHaltsSpec)

/-- 'consolslaw23.DeskBest', WHERE WHAT IT READS IS OF BULK AT MOST 1048576: true; the input reads as it did. -/
def deskBestUptoRow : OpenClaim := { program := "ytakilgkpfjhfdaagreat", sum := "2b9f15471f15f23c07f689c1e02dd27c6d08f80ce69fe0c6f64d83dd2b4054aa", func := "consols/consolslaw23.DeskBest", spec := "deskBest", inPlace := ["slices.overlaps[consols/api.Quote]", "slices.overlaps[consols/api.Due]", "math/bits.Add64", "slices.overlaps[consols/api.Ask]"], unfollowed := true, recurses := true, apart := false, narrowed := true }
def DeskBestUptoSaid : Prop := deskBestUptoRow.holds Tryz.pinned (OpenSpec.upto deskBestSpec)

/-- 'consolslaw23.DeskChanges', WHERE WHAT IT READS IS OF BULK AT MOST 1048576: true; the input reads as it did. -/
def deskChangesUptoRow : OpenClaim := { program := "ytakilgkpfjhfdaagreat", sum := "2b9f15471f15f23c07f689c1e02dd27c6d08f80ce69fe0c6f64d83dd2b4054aa", func := "consols/consolslaw23.DeskChanges", spec := "deskChanges", inPlace := ["slices.overlaps[consols/api.Quote]", "slices.overlaps[consols/api.Due]", "math/bits.Add64", "slices.overlaps[consols/api.Ask]"], unfollowed := true, recurses := true, apart := false, narrowed := true }
def DeskChangesUptoSaid : Prop := deskChangesUptoRow.holds Tryz.pinned (OpenSpec.upto deskChangesSpec)

/-- 'consolslaw23.DeskGone', WHERE WHAT IT READS IS OF BULK AT MOST 1048576: true; the input reads as it did. -/
def deskGoneUptoRow : OpenClaim := { program := "ytakilgkpfjhfdaagreat", sum := "2b9f15471f15f23c07f689c1e02dd27c6d08f80ce69fe0c6f64d83dd2b4054aa", func := "consols/consolslaw23.DeskGone", spec := "deskGone", inPlace := ["slices.overlaps[consols/api.Quote]", "slices.overlaps[consols/api.Due]", "math/bits.Add64", "slices.overlaps[consols/api.Ask]"], unfollowed := true, recurses := true, apart := false, narrowed := true }
def DeskGoneUptoSaid : Prop := deskGoneUptoRow.holds Tryz.pinned (OpenSpec.upto deskGoneSpec)

/-- 'consolslaw23.DeskLook', WHERE WHAT IT READS IS OF BULK AT MOST 1048576: true; the input reads as it did. -/
def deskLookUptoRow : OpenClaim := { program := "ytakilgkpfjhfdaagreat", sum := "2b9f15471f15f23c07f689c1e02dd27c6d08f80ce69fe0c6f64d83dd2b4054aa", func := "consols/consolslaw23.DeskLook", spec := "deskLook", inPlace := ["slices.overlaps[consols/api.Quote]", "slices.overlaps[consols/api.Due]", "math/bits.Add64", "slices.overlaps[consols/api.Ask]"], unfollowed := true, recurses := true, apart := false, narrowed := true }
def DeskLookUptoSaid : Prop := deskLookUptoRow.holds Tryz.pinned (OpenSpec.upto deskLookSpec)

/-- 'consolslaw23.DeskTimes', WHERE WHAT IT READS IS OF BULK AT MOST 1048576: true; the input reads as it did. -/
def deskTimesUptoRow : OpenClaim := { program := "ytakilgkpfjhfdaagreat", sum := "2b9f15471f15f23c07f689c1e02dd27c6d08f80ce69fe0c6f64d83dd2b4054aa", func := "consols/consolslaw23.DeskTimes", spec := "deskTimes", inPlace := ["slices.overlaps[consols/api.Quote]", "slices.overlaps[consols/api.Due]", "math/bits.Add64", "slices.overlaps[consols/api.Ask]"], unfollowed := true, recurses := true, apart := false, narrowed := true }
def DeskTimesUptoSaid : Prop := deskTimesUptoRow.holds Tryz.pinned (OpenSpec.upto deskTimesSpec)

/-- 'consolslaw23.DeskEnds', WHERE WHAT IT READS IS OF BULK AT MOST 1048576: true; the input reads as it did. -/
def deskEndsUptoRow : OpenClaim := { program := "ytakilgkpfjhfdaagreat", sum := "2b9f15471f15f23c07f689c1e02dd27c6d08f80ce69fe0c6f64d83dd2b4054aa", func := "consols/consolslaw23.DeskEnds", spec := "deskEnds", inPlace := ["slices.overlaps[consols/api.Quote]", "slices.overlaps[consols/api.Due]", "math/bits.Add64", "slices.overlaps[consols/api.Ask]"], unfollowed := true, recurses := true, apart := false, narrowed := true }
def DeskEndsUptoSaid : Prop := deskEndsUptoRow.holds Tryz.pinned (OpenSpec.upto deskEndsSpec)

/-- 'consolslaw23.DeskRejects', WHERE WHAT IT READS IS OF BULK AT MOST 1048576: true; the input reads as it did. -/
def deskRejectsUptoRow : OpenClaim := { program := "ytakilgkpfjhfdaagreat", sum := "2b9f15471f15f23c07f689c1e02dd27c6d08f80ce69fe0c6f64d83dd2b4054aa", func := "consols/consolslaw23.DeskRejects", spec := "deskRejects", inPlace := ["slices.overlaps[consols/api.Quote]", "slices.overlaps[consols/api.Due]", "math/bits.Add64", "slices.overlaps[consols/api.Ask]"], unfollowed := true, recurses := true, apart := false, narrowed := true }
def DeskRejectsUptoSaid : Prop := deskRejectsUptoRow.holds Tryz.pinned (OpenSpec.upto deskRejectsSpec)

end Rows
end Go.Proofs.YtakilgkpfjhfdaaGreat
