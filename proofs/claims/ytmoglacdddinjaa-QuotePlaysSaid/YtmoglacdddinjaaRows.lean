/-
  No cell of these rows narrows 'for every input' (looked for: loops, veiled, ifaces, maps, wideKeys, modest, calm, conditions, laid).
  DERIVED. THE GIVEN ROWS OF THIS SEAT. 11 by the template 'for every input the law returns true; each argument reads behind the call as it read before'; 0 by the template 'total and deterministic' (their statements: YtmoglacdddinjaaTotals.lean).
  GIVEN WITH THE SEED: the statements are not yours to turn. If you find one false, say at which input.
  Laid BY PROGRAM, IN A SANDBOX (cutbox-rows.mjs): the forced cells as the released guide's own fill.sh prints them over the translation d82744d61b8839f7… (all of the seat's roots in one cut). By AI agents, Wed Nov 11 2026. No macro, syntax, notation, axiom, sorry.
-/
import Derived.Test.YtmoglacdddinjaaChecked
import GoSem.Claim
import GoSem.ClaimJoined
import GoSem.ClaimMapViews
import Derived.JoinedTies
import Derived.KernelRfl
namespace Go.Proofs.Ytmoglacdddinjaa
/- THE CELL 'sum', in the pinned program and in every row, IS THE sha256 OF THE DUMP (.gsa) THAT YtmoglacdddinjaaProg.lean LOADS. Nothing in Lean hashes anything: it is a label: what it is worth is what the hold of that sum in a sandbox is worth. -/
noncomputable def Try.pinned : Pinned := { name := "ytmoglacdddinjaa", sum := "d82744d61b8839f72177ec81341d8b9690c67d52823a3a5e7c119439596d97c7", checked := Try.checked }
namespace Rows
def none {H : Type} : Left H := { results := [], args := [] }

/-- 'consolslaw17.QuoteLives': WHATEVER THE INPUT: true; the input reads as it did. -/
def quoteLivesSpec : ChangeSpec := { name := "quoteLives", fn := fun _ => fun
  | [d1, d2] => { results := [.lit (.bool true)], args := [d1, d2] }
  | _ => none }
def quoteLivesRow : OpenClaim := { program := "ytmoglacdddinjaa", sum := "d82744d61b8839f72177ec81341d8b9690c67d52823a3a5e7c119439596d97c7", func := "consols/consolslaw17.QuoteLives", spec := "quoteLives", inPlace := ["slices.overlaps[consols/api.Quote]"], unfollowed := true, recurses := true, apart := false }
def QuoteLivesSaid : Prop := quoteLivesRow.holds Try.pinned (OpenSpec.ofChange quoteLivesSpec)

/-- ITS FALSE NEIGHBOUR: 'it returns false'. Refute it at one input. -/
def quoteLivesWrong : ChangeSpec := { name := "quoteLives", fn := fun _ => fun
  | [d1, d2] => { results := [.lit (.bool false)], args := [d1, d2] }
  | _ => none }
def QuoteLivesWrongFalsely : Prop := quoteLivesRow.holds Try.pinned (OpenSpec.ofChange quoteLivesWrong)

/-- 'consolslaw11.DueDrops': WHATEVER THE INPUT: true; the input reads as it did. -/
def dueDropsSpec : ChangeSpec := { name := "dueDrops", fn := fun _ => fun
  | [d1, d2] => { results := [.lit (.bool true)], args := [d1, d2] }
  | _ => none }
def dueDropsRow : OpenClaim := { program := "ytmoglacdddinjaa", sum := "d82744d61b8839f72177ec81341d8b9690c67d52823a3a5e7c119439596d97c7", func := "consols/consolslaw11.DueDrops", spec := "dueDrops", inPlace := ["slices.overlaps[consols/api.Due]"], unfollowed := true, recurses := true, apart := false }
def DueDropsSaid : Prop := dueDropsRow.holds Try.pinned (OpenSpec.ofChange dueDropsSpec)

/-- ITS FALSE NEIGHBOUR: 'it returns false'. Refute it at one input. -/
def dueDropsWrong : ChangeSpec := { name := "dueDrops", fn := fun _ => fun
  | [d1, d2] => { results := [.lit (.bool false)], args := [d1, d2] }
  | _ => none }
def DueDropsWrongFalsely : Prop := dueDropsRow.holds Try.pinned (OpenSpec.ofChange dueDropsWrong)

/-- 'consolslaw11.DuePlays': WHATEVER THE INPUT: true; the input reads as it did. -/
def duePlaysSpec : ChangeSpec := { name := "duePlays", fn := fun _ => fun
  | [d] => { results := [.lit (.bool true)], args := [d] }
  | _ => none }
def duePlaysRow : OpenClaim := { program := "ytmoglacdddinjaa", sum := "d82744d61b8839f72177ec81341d8b9690c67d52823a3a5e7c119439596d97c7", func := "consols/consolslaw11.DuePlays", spec := "duePlays", inPlace := ["slices.overlaps[consols/api.Due]"], unfollowed := true, recurses := true, apart := false }
def DuePlaysSaid : Prop := duePlaysRow.holds Try.pinned (OpenSpec.ofChange duePlaysSpec)

/-- ITS FALSE NEIGHBOUR: 'it returns false'. Refute it at one input. -/
def duePlaysWrong : ChangeSpec := { name := "duePlays", fn := fun _ => fun
  | [d] => { results := [.lit (.bool false)], args := [d] }
  | _ => none }
def DuePlaysWrongFalsely : Prop := duePlaysRow.holds Try.pinned (OpenSpec.ofChange duePlaysWrong)

/-- 'consolslaw11.DueAll': WHATEVER THE INPUT: true; the input reads as it did. -/
def dueAllSpec : ChangeSpec := { name := "dueAll", fn := fun _ => fun
  | [d1, d2] => { results := [.lit (.bool true)], args := [d1, d2] }
  | _ => none }
def dueAllRow : OpenClaim := { program := "ytmoglacdddinjaa", sum := "d82744d61b8839f72177ec81341d8b9690c67d52823a3a5e7c119439596d97c7", func := "consols/consolslaw11.DueAll", spec := "dueAll", inPlace := ["slices.overlaps[consols/api.Due]"], unfollowed := true, recurses := true, apart := false }
def DueAllSaid : Prop := dueAllRow.holds Try.pinned (OpenSpec.ofChange dueAllSpec)

/-- ITS FALSE NEIGHBOUR: 'it returns false'. Refute it at one input. -/
def dueAllWrong : ChangeSpec := { name := "dueAll", fn := fun _ => fun
  | [d1, d2] => { results := [.lit (.bool false)], args := [d1, d2] }
  | _ => none }
def DueAllWrongFalsely : Prop := dueAllRow.holds Try.pinned (OpenSpec.ofChange dueAllWrong)

/-- 'consolslaw17.QuoteWays': WHATEVER THE INPUT: true; the input reads as it did. -/
def quoteWaysSpec : ChangeSpec := { name := "quoteWays", fn := fun _ => fun
  | [d] => { results := [.lit (.bool true)], args := [d] }
  | _ => none }
def quoteWaysRow : OpenClaim := { program := "ytmoglacdddinjaa", sum := "d82744d61b8839f72177ec81341d8b9690c67d52823a3a5e7c119439596d97c7", func := "consols/consolslaw17.QuoteWays", spec := "quoteWays", inPlace := ["slices.overlaps[consols/api.Quote]"], unfollowed := true, recurses := true, apart := false }
def QuoteWaysSaid : Prop := quoteWaysRow.holds Try.pinned (OpenSpec.ofChange quoteWaysSpec)

/-- ITS FALSE NEIGHBOUR: 'it returns false'. Refute it at one input. -/
def quoteWaysWrong : ChangeSpec := { name := "quoteWays", fn := fun _ => fun
  | [d] => { results := [.lit (.bool false)], args := [d] }
  | _ => none }
def QuoteWaysWrongFalsely : Prop := quoteWaysRow.holds Try.pinned (OpenSpec.ofChange quoteWaysWrong)

/-- 'consolslaw18.AskPlays': WHATEVER THE INPUT: true; the input reads as it did. -/
def askPlaysSpec : ChangeSpec := { name := "askPlays", fn := fun _ => fun
  | [d] => { results := [.lit (.bool true)], args := [d] }
  | _ => none }
def askPlaysRow : OpenClaim := { program := "ytmoglacdddinjaa", sum := "d82744d61b8839f72177ec81341d8b9690c67d52823a3a5e7c119439596d97c7", func := "consols/consolslaw18.AskPlays", spec := "askPlays", inPlace := ["slices.overlaps[consols/api.Ask]"], unfollowed := true, recurses := true, apart := false }
def AskPlaysSaid : Prop := askPlaysRow.holds Try.pinned (OpenSpec.ofChange askPlaysSpec)

/-- ITS FALSE NEIGHBOUR: 'it returns false'. Refute it at one input. -/
def askPlaysWrong : ChangeSpec := { name := "askPlays", fn := fun _ => fun
  | [d] => { results := [.lit (.bool false)], args := [d] }
  | _ => none }
def AskPlaysWrongFalsely : Prop := askPlaysRow.holds Try.pinned (OpenSpec.ofChange askPlaysWrong)

/-- 'consolslaw18.AskEnds': WHATEVER THE INPUT: true; the input reads as it did. -/
def askEndsSpec : ChangeSpec := { name := "askEnds", fn := fun _ => fun
  | [d1, d2] => { results := [.lit (.bool true)], args := [d1, d2] }
  | _ => none }
def askEndsRow : OpenClaim := { program := "ytmoglacdddinjaa", sum := "d82744d61b8839f72177ec81341d8b9690c67d52823a3a5e7c119439596d97c7", func := "consols/consolslaw18.AskEnds", spec := "askEnds", inPlace := ["slices.overlaps[consols/api.Ask]"], unfollowed := true, recurses := true, apart := false }
def AskEndsSaid : Prop := askEndsRow.holds Try.pinned (OpenSpec.ofChange askEndsSpec)

/-- ITS FALSE NEIGHBOUR: 'it returns false'. Refute it at one input. -/
def askEndsWrong : ChangeSpec := { name := "askEnds", fn := fun _ => fun
  | [d1, d2] => { results := [.lit (.bool false)], args := [d1, d2] }
  | _ => none }
def AskEndsWrongFalsely : Prop := askEndsRow.holds Try.pinned (OpenSpec.ofChange askEndsWrong)

/-- 'consolslaw18.AskFull': WHATEVER THE INPUT: true; the input reads as it did. -/
def askFullSpec : ChangeSpec := { name := "askFull", fn := fun _ => fun
  | [d] => { results := [.lit (.bool true)], args := [d] }
  | _ => none }
def askFullRow : OpenClaim := { program := "ytmoglacdddinjaa", sum := "d82744d61b8839f72177ec81341d8b9690c67d52823a3a5e7c119439596d97c7", func := "consols/consolslaw18.AskFull", spec := "askFull", inPlace := ["slices.overlaps[consols/api.Ask]"], unfollowed := true, recurses := true, apart := false }
def AskFullSaid : Prop := askFullRow.holds Try.pinned (OpenSpec.ofChange askFullSpec)

/-- ITS FALSE NEIGHBOUR: 'it returns false'. Refute it at one input. -/
def askFullWrong : ChangeSpec := { name := "askFull", fn := fun _ => fun
  | [d] => { results := [.lit (.bool false)], args := [d] }
  | _ => none }
def AskFullWrongFalsely : Prop := askFullRow.holds Try.pinned (OpenSpec.ofChange askFullWrong)

/-- 'consolslaw18.AskWays': WHATEVER THE INPUT: true; the input reads as it did. -/
def askWaysSpec : ChangeSpec := { name := "askWays", fn := fun _ => fun
  | [d] => { results := [.lit (.bool true)], args := [d] }
  | _ => none }
def askWaysRow : OpenClaim := { program := "ytmoglacdddinjaa", sum := "d82744d61b8839f72177ec81341d8b9690c67d52823a3a5e7c119439596d97c7", func := "consols/consolslaw18.AskWays", spec := "askWays", inPlace := ["slices.overlaps[consols/api.Ask]"], unfollowed := true, recurses := true, apart := false }
def AskWaysSaid : Prop := askWaysRow.holds Try.pinned (OpenSpec.ofChange askWaysSpec)

/-- ITS FALSE NEIGHBOUR: 'it returns false'. Refute it at one input. -/
def askWaysWrong : ChangeSpec := { name := "askWays", fn := fun _ => fun
  | [d] => { results := [.lit (.bool false)], args := [d] }
  | _ => none }
def AskWaysWrongFalsely : Prop := askWaysRow.holds Try.pinned (OpenSpec.ofChange askWaysWrong)

/-- 'consolslaw17.QuotePlays': WHATEVER THE INPUT: true; the input reads as it did. -/
def quotePlaysSpec : ChangeSpec := { name := "quotePlays", fn := fun _ => fun
  | [d1, d2] => { results := [.lit (.bool true)], args := [d1, d2] }
  | _ => none }
def quotePlaysRow : OpenClaim := { program := "ytmoglacdddinjaa", sum := "d82744d61b8839f72177ec81341d8b9690c67d52823a3a5e7c119439596d97c7", func := "consols/consolslaw17.QuotePlays", spec := "quotePlays", inPlace := ["slices.overlaps[consols/api.Quote]"], unfollowed := true, recurses := true, apart := false }
def QuotePlaysSaid : Prop := quotePlaysRow.holds Try.pinned (OpenSpec.ofChange quotePlaysSpec)

/-- ITS FALSE NEIGHBOUR: 'it returns false'. Refute it at one input. -/
def quotePlaysWrong : ChangeSpec := { name := "quotePlays", fn := fun _ => fun
  | [d1, d2] => { results := [.lit (.bool false)], args := [d1, d2] }
  | _ => none }
def QuotePlaysWrongFalsely : Prop := quotePlaysRow.holds Try.pinned (OpenSpec.ofChange quotePlaysWrong)

/-- 'consolslaw17.QuoteOne': WHATEVER THE INPUT: true; the input reads as it did. -/
def quoteOneSpec : ChangeSpec := { name := "quoteOne", fn := fun _ => fun
  | [d] => { results := [.lit (.bool true)], args := [d] }
  | _ => none }
def quoteOneRow : OpenClaim := { program := "ytmoglacdddinjaa", sum := "d82744d61b8839f72177ec81341d8b9690c67d52823a3a5e7c119439596d97c7", func := "consols/consolslaw17.QuoteOne", spec := "quoteOne", inPlace := ["slices.overlaps[consols/api.Quote]"], unfollowed := true, recurses := true, apart := false }
def QuoteOneSaid : Prop := quoteOneRow.holds Try.pinned (OpenSpec.ofChange quoteOneSpec)

/-- ITS FALSE NEIGHBOUR: 'it returns false'. Refute it at one input. -/
def quoteOneWrong : ChangeSpec := { name := "quoteOne", fn := fun _ => fun
  | [d] => { results := [.lit (.bool false)], args := [d] }
  | _ => none }
def QuoteOneWrongFalsely : Prop := quoteOneRow.holds Try.pinned (OpenSpec.ofChange quoteOneWrong)

/- THE SECOND FORM. 'bulk': how many values and letters a reading holds, each counted each time it is reached (what is shared counts as often as it is met; a slice's spare places count too). A statement '..UptoSaid' is the law's where the arguments, and the package variables that the reading takes, are together of bulk at most 1048576: NARROWER than '..Said'. Prove '..Said' where nothing that the law and all that it calls make is longer than what came in: it says more and counts as full. Else prove '..UptoSaid'. A law counts once. -/
mutual
def uptoBulk {H : Type} : DataW H → Nat
  | .lit (.string bytes) => bytes.length + 1
  | .lit _ => 1
  | .nil => 1
  | .ptr d => uptoBulk d + 1
  | .slice elems spare => uptoBulkAll elems + uptoBulkAll spare + 1
  | .agg parts => uptoBulkAll parts + 1
  | .iface _ d => uptoBulk d + 1
  | .map entries => uptoBulkEntries entries + 1
  | .held _ => 1
def uptoBulkAll {H : Type} : List (DataW H) → Nat
  | [] => 0
  | d :: r => uptoBulk d + uptoBulkAll r
def uptoBulkEntries {H : Type} : List (Lit × DataW H) → Nat
  | [] => 0
  | x :: r => uptoBulkEntry x + uptoBulkEntries r
def uptoBulkEntry {H : Type} : Lit × DataW H → Nat
  | (.string bytes, d) => bytes.length + uptoBulk d + 1
  | (_, d) => uptoBulk d + 1
 end
def uptoSmall : (H : Type) → List (DataW H) → Bool := fun _ ds => decide (uptoBulkAll ds ≤ 1048576)
def OpenSpec.upto (s : _root_.Go.ChangeSpec) : _root_.Go.OpenSpec := { _root_.Go.OpenSpec.ofChange s with cond := some uptoSmall }

/-- 'consolslaw17.QuoteLives', WHERE WHAT IT READS IS OF BULK AT MOST 1048576: true; the input reads as it did. -/
def quoteLivesUptoRow : OpenClaim := { program := "ytmoglacdddinjaa", sum := "d82744d61b8839f72177ec81341d8b9690c67d52823a3a5e7c119439596d97c7", func := "consols/consolslaw17.QuoteLives", spec := "quoteLives", inPlace := ["slices.overlaps[consols/api.Quote]"], unfollowed := true, recurses := true, apart := false, narrowed := true }
def QuoteLivesUptoSaid : Prop := quoteLivesUptoRow.holds Try.pinned (OpenSpec.upto quoteLivesSpec)

/-- 'consolslaw11.DueDrops', WHERE WHAT IT READS IS OF BULK AT MOST 1048576: true; the input reads as it did. -/
def dueDropsUptoRow : OpenClaim := { program := "ytmoglacdddinjaa", sum := "d82744d61b8839f72177ec81341d8b9690c67d52823a3a5e7c119439596d97c7", func := "consols/consolslaw11.DueDrops", spec := "dueDrops", inPlace := ["slices.overlaps[consols/api.Due]"], unfollowed := true, recurses := true, apart := false, narrowed := true }
def DueDropsUptoSaid : Prop := dueDropsUptoRow.holds Try.pinned (OpenSpec.upto dueDropsSpec)

/-- 'consolslaw11.DuePlays', WHERE WHAT IT READS IS OF BULK AT MOST 1048576: true; the input reads as it did. -/
def duePlaysUptoRow : OpenClaim := { program := "ytmoglacdddinjaa", sum := "d82744d61b8839f72177ec81341d8b9690c67d52823a3a5e7c119439596d97c7", func := "consols/consolslaw11.DuePlays", spec := "duePlays", inPlace := ["slices.overlaps[consols/api.Due]"], unfollowed := true, recurses := true, apart := false, narrowed := true }
def DuePlaysUptoSaid : Prop := duePlaysUptoRow.holds Try.pinned (OpenSpec.upto duePlaysSpec)

/-- 'consolslaw11.DueAll', WHERE WHAT IT READS IS OF BULK AT MOST 1048576: true; the input reads as it did. -/
def dueAllUptoRow : OpenClaim := { program := "ytmoglacdddinjaa", sum := "d82744d61b8839f72177ec81341d8b9690c67d52823a3a5e7c119439596d97c7", func := "consols/consolslaw11.DueAll", spec := "dueAll", inPlace := ["slices.overlaps[consols/api.Due]"], unfollowed := true, recurses := true, apart := false, narrowed := true }
def DueAllUptoSaid : Prop := dueAllUptoRow.holds Try.pinned (OpenSpec.upto dueAllSpec)

/-- 'consolslaw17.QuoteWays', WHERE WHAT IT READS IS OF BULK AT MOST 1048576: true; the input reads as it did. -/
def quoteWaysUptoRow : OpenClaim := { program := "ytmoglacdddinjaa", sum := "d82744d61b8839f72177ec81341d8b9690c67d52823a3a5e7c119439596d97c7", func := "consols/consolslaw17.QuoteWays", spec := "quoteWays", inPlace := ["slices.overlaps[consols/api.Quote]"], unfollowed := true, recurses := true, apart := false, narrowed := true }
def QuoteWaysUptoSaid : Prop := quoteWaysUptoRow.holds Try.pinned (OpenSpec.upto quoteWaysSpec)

/-- 'consolslaw18.AskPlays', WHERE WHAT IT READS IS OF BULK AT MOST 1048576: true; the input reads as it did. -/
def askPlaysUptoRow : OpenClaim := { program := "ytmoglacdddinjaa", sum := "d82744d61b8839f72177ec81341d8b9690c67d52823a3a5e7c119439596d97c7", func := "consols/consolslaw18.AskPlays", spec := "askPlays", inPlace := ["slices.overlaps[consols/api.Ask]"], unfollowed := true, recurses := true, apart := false, narrowed := true }
def AskPlaysUptoSaid : Prop := askPlaysUptoRow.holds Try.pinned (OpenSpec.upto askPlaysSpec)

/-- 'consolslaw18.AskEnds', WHERE WHAT IT READS IS OF BULK AT MOST 1048576: true; the input reads as it did. -/
def askEndsUptoRow : OpenClaim := { program := "ytmoglacdddinjaa", sum := "d82744d61b8839f72177ec81341d8b9690c67d52823a3a5e7c119439596d97c7", func := "consols/consolslaw18.AskEnds", spec := "askEnds", inPlace := ["slices.overlaps[consols/api.Ask]"], unfollowed := true, recurses := true, apart := false, narrowed := true }
def AskEndsUptoSaid : Prop := askEndsUptoRow.holds Try.pinned (OpenSpec.upto askEndsSpec)

/-- 'consolslaw18.AskFull', WHERE WHAT IT READS IS OF BULK AT MOST 1048576: true; the input reads as it did. -/
def askFullUptoRow : OpenClaim := { program := "ytmoglacdddinjaa", sum := "d82744d61b8839f72177ec81341d8b9690c67d52823a3a5e7c119439596d97c7", func := "consols/consolslaw18.AskFull", spec := "askFull", inPlace := ["slices.overlaps[consols/api.Ask]"], unfollowed := true, recurses := true, apart := false, narrowed := true }
def AskFullUptoSaid : Prop := askFullUptoRow.holds Try.pinned (OpenSpec.upto askFullSpec)

/-- 'consolslaw18.AskWays', WHERE WHAT IT READS IS OF BULK AT MOST 1048576: true; the input reads as it did. -/
def askWaysUptoRow : OpenClaim := { program := "ytmoglacdddinjaa", sum := "d82744d61b8839f72177ec81341d8b9690c67d52823a3a5e7c119439596d97c7", func := "consols/consolslaw18.AskWays", spec := "askWays", inPlace := ["slices.overlaps[consols/api.Ask]"], unfollowed := true, recurses := true, apart := false, narrowed := true }
def AskWaysUptoSaid : Prop := askWaysUptoRow.holds Try.pinned (OpenSpec.upto askWaysSpec)

/-- 'consolslaw17.QuotePlays', WHERE WHAT IT READS IS OF BULK AT MOST 1048576: true; the input reads as it did. -/
def quotePlaysUptoRow : OpenClaim := { program := "ytmoglacdddinjaa", sum := "d82744d61b8839f72177ec81341d8b9690c67d52823a3a5e7c119439596d97c7", func := "consols/consolslaw17.QuotePlays", spec := "quotePlays", inPlace := ["slices.overlaps[consols/api.Quote]"], unfollowed := true, recurses := true, apart := false, narrowed := true }
def QuotePlaysUptoSaid : Prop := quotePlaysUptoRow.holds Try.pinned (OpenSpec.upto quotePlaysSpec)

/-- 'consolslaw17.QuoteOne', WHERE WHAT IT READS IS OF BULK AT MOST 1048576: true; the input reads as it did. -/
def quoteOneUptoRow : OpenClaim := { program := "ytmoglacdddinjaa", sum := "d82744d61b8839f72177ec81341d8b9690c67d52823a3a5e7c119439596d97c7", func := "consols/consolslaw17.QuoteOne", spec := "quoteOne", inPlace := ["slices.overlaps[consols/api.Quote]"], unfollowed := true, recurses := true, apart := false, narrowed := true }
def QuoteOneUptoSaid : Prop := quoteOneUptoRow.holds Try.pinned (OpenSpec.upto quoteOneSpec)

end Rows
end Go.Proofs.Ytmoglacdddinjaa
