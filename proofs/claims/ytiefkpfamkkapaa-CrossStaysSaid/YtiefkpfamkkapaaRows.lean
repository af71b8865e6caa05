/-
  No cell of these rows narrows 'for every input' (looked for: loops, veiled, ifaces, maps, wideKeys, modest, calm, conditions, laid).
  DERIVED. THE GIVEN ROWS OF THIS SEAT. 22 by the template 'for every input the law returns true; each argument reads behind the call as it read before'; 0 by the template 'total and deterministic' (their statements: YtiefkpfamkkapaaTotals.lean).
  GIVEN WITH THE SEED: the statements are not yours to turn. If you find one false, say at which input.
  Laid BY PROGRAM, IN A SANDBOX (cutbox-rows.mjs): the forced cells as the released guide's own fill.sh prints them over the translation fdca8d27e4f1aed0… (all of the seat's roots in one cut). By AI agents, Wed Nov 11 2026. No macro, syntax, notation, axiom, sorry.
-/
import Derived.Test.YtiefkpfamkkapaaChecked
import GoSem.Claim
import GoSem.ClaimJoined
import GoSem.ClaimMapViews
import Derived.JoinedTies
import Derived.KernelRfl
namespace Go.Proofs.Ytiefkpfamkkapaa
/- THE CELL 'sum', in the pinned program and in every row, IS THE sha256 OF THE DUMP (.gsa) THAT YtiefkpfamkkapaaProg.lean LOADS. Nothing in Lean hashes anything: it is a label: what it is worth is what the hold of that sum in a sandbox is worth. -/
noncomputable def Try.pinned : Pinned := { name := "ytiefkpfamkkapaa", sum := "fdca8d27e4f1aed0ea437b32e71982410dd25c3fea50a3f24bb696683480775c", checked := Try.checked }
namespace Rows
def none {H : Type} : Left H := { results := [], args := [] }

/-- 'consolslaw14.BookSorts': WHATEVER THE INPUT: true; the input reads as it did. -/
def bookSortsSpec : ChangeSpec := { name := "bookSorts", fn := fun _ => fun
  | [d1, d2] => { results := [.lit (.bool true)], args := [d1, d2] }
  | _ => none }
def bookSortsRow : OpenClaim := { program := "ytiefkpfamkkapaa", sum := "fdca8d27e4f1aed0ea437b32e71982410dd25c3fea50a3f24bb696683480775c", func := "consols/consolslaw14.BookSorts", spec := "bookSorts", unfollowed := true, recurses := true, apart := false }
def BookSortsSaid : Prop := bookSortsRow.holds Try.pinned (OpenSpec.ofChange bookSortsSpec)

/-- ITS FALSE NEIGHBOUR: 'it returns false'. Refute it at one input. -/
def bookSortsWrong : ChangeSpec := { name := "bookSorts", fn := fun _ => fun
  | [d1, d2] => { results := [.lit (.bool false)], args := [d1, d2] }
  | _ => none }
def BookSortsWrongFalsely : Prop := bookSortsRow.holds Try.pinned (OpenSpec.ofChange bookSortsWrong)

/-- 'consolslaw14.BookOwn': WHATEVER THE INPUT: true; the input reads as it did. -/
def bookOwnSpec : ChangeSpec := { name := "bookOwn", fn := fun _ => fun
  | [d1, d2] => { results := [.lit (.bool true)], args := [d1, d2] }
  | _ => none }
def bookOwnRow : OpenClaim := { program := "ytiefkpfamkkapaa", sum := "fdca8d27e4f1aed0ea437b32e71982410dd25c3fea50a3f24bb696683480775c", func := "consols/consolslaw14.BookOwn", spec := "bookOwn", unfollowed := true, recurses := true, apart := false }
def BookOwnSaid : Prop := bookOwnRow.holds Try.pinned (OpenSpec.ofChange bookOwnSpec)

/-- ITS FALSE NEIGHBOUR: 'it returns false'. Refute it at one input. -/
def bookOwnWrong : ChangeSpec := { name := "bookOwn", fn := fun _ => fun
  | [d1, d2] => { results := [.lit (.bool false)], args := [d1, d2] }
  | _ => none }
def BookOwnWrongFalsely : Prop := bookOwnRow.holds Try.pinned (OpenSpec.ofChange bookOwnWrong)

/-- 'consolslaw14.BookLess': WHATEVER THE INPUT: true; the input reads as it did. -/
def bookLessSpec : ChangeSpec := { name := "bookLess", fn := fun _ => fun
  | [d1, d2, d3] => { results := [.lit (.bool true)], args := [d1, d2, d3] }
  | _ => none }
def bookLessRow : OpenClaim := { program := "ytiefkpfamkkapaa", sum := "fdca8d27e4f1aed0ea437b32e71982410dd25c3fea50a3f24bb696683480775c", func := "consols/consolslaw14.BookLess", spec := "bookLess", unfollowed := true, recurses := true, apart := false }
def BookLessSaid : Prop := bookLessRow.holds Try.pinned (OpenSpec.ofChange bookLessSpec)

/-- ITS FALSE NEIGHBOUR: 'it returns false'. Refute it at one input. -/
def bookLessWrong : ChangeSpec := { name := "bookLess", fn := fun _ => fun
  | [d1, d2, d3] => { results := [.lit (.bool false)], args := [d1, d2, d3] }
  | _ => none }
def BookLessWrongFalsely : Prop := bookLessRow.holds Try.pinned (OpenSpec.ofChange bookLessWrong)

/-- 'consolslaw14.BookFull': WHATEVER THE INPUT: true; the input reads as it did. -/
def bookFullSpec : ChangeSpec := { name := "bookFull", fn := fun _ => fun
  | [d] => { results := [.lit (.bool true)], args := [d] }
  | _ => none }
def bookFullRow : OpenClaim := { program := "ytiefkpfamkkapaa", sum := "fdca8d27e4f1aed0ea437b32e71982410dd25c3fea50a3f24bb696683480775c", func := "consols/consolslaw14.BookFull", spec := "bookFull", unfollowed := true, recurses := true, apart := false }
def BookFullSaid : Prop := bookFullRow.holds Try.pinned (OpenSpec.ofChange bookFullSpec)

/-- ITS FALSE NEIGHBOUR: 'it returns false'. Refute it at one input. -/
def bookFullWrong : ChangeSpec := { name := "bookFull", fn := fun _ => fun
  | [d] => { results := [.lit (.bool false)], args := [d] }
  | _ => none }
def BookFullWrongFalsely : Prop := bookFullRow.holds Try.pinned (OpenSpec.ofChange bookFullWrong)

/-- 'consolslaw14.BookPlays': WHATEVER THE INPUT: true; the input reads as it did. -/
def bookPlaysSpec : ChangeSpec := { name := "bookPlays", fn := fun _ => fun
  | [d] => { results := [.lit (.bool true)], args := [d] }
  | _ => none }
def bookPlaysRow : OpenClaim := { program := "ytiefkpfamkkapaa", sum := "fdca8d27e4f1aed0ea437b32e71982410dd25c3fea50a3f24bb696683480775c", func := "consols/consolslaw14.BookPlays", spec := "bookPlays", unfollowed := true, recurses := true, apart := false }
def BookPlaysSaid : Prop := bookPlaysRow.holds Try.pinned (OpenSpec.ofChange bookPlaysSpec)

/-- ITS FALSE NEIGHBOUR: 'it returns false'. Refute it at one input. -/
def bookPlaysWrong : ChangeSpec := { name := "bookPlays", fn := fun _ => fun
  | [d] => { results := [.lit (.bool false)], args := [d] }
  | _ => none }
def BookPlaysWrongFalsely : Prop := bookPlaysRow.holds Try.pinned (OpenSpec.ofChange bookPlaysWrong)

/-- 'consolslaw16.DepthMore': WHATEVER THE INPUT: true; the input reads as it did. -/
def depthMoreSpec : ChangeSpec := { name := "depthMore", fn := fun _ => fun
  | [d1, d2, d3] => { results := [.lit (.bool true)], args := [d1, d2, d3] }
  | _ => none }
def depthMoreRow : OpenClaim := { program := "ytiefkpfamkkapaa", sum := "fdca8d27e4f1aed0ea437b32e71982410dd25c3fea50a3f24bb696683480775c", func := "consols/consolslaw16.DepthMore", spec := "depthMore", inPlace := ["math/bits.Add64"], unfollowed := true, recurses := true, apart := false }
def DepthMoreSaid : Prop := depthMoreRow.holds Try.pinned (OpenSpec.ofChange depthMoreSpec)

/-- ITS FALSE NEIGHBOUR: 'it returns false'. Refute it at one input. -/
def depthMoreWrong : ChangeSpec := { name := "depthMore", fn := fun _ => fun
  | [d1, d2, d3] => { results := [.lit (.bool false)], args := [d1, d2, d3] }
  | _ => none }
def DepthMoreWrongFalsely : Prop := depthMoreRow.holds Try.pinned (OpenSpec.ofChange depthMoreWrong)

/-- 'consolslaw16.DepthOrders': WHATEVER THE INPUT: true; the input reads as it did. -/
def depthOrdersSpec : ChangeSpec := { name := "depthOrders", fn := fun _ => fun
  | [d1, d2] => { results := [.lit (.bool true)], args := [d1, d2] }
  | _ => none }
def depthOrdersRow : OpenClaim := { program := "ytiefkpfamkkapaa", sum := "fdca8d27e4f1aed0ea437b32e71982410dd25c3fea50a3f24bb696683480775c", func := "consols/consolslaw16.DepthOrders", spec := "depthOrders", inPlace := ["math/bits.Add64"], unfollowed := true, recurses := true, apart := false }
def DepthOrdersSaid : Prop := depthOrdersRow.holds Try.pinned (OpenSpec.ofChange depthOrdersSpec)

/-- ITS FALSE NEIGHBOUR: 'it returns false'. Refute it at one input. -/
def depthOrdersWrong : ChangeSpec := { name := "depthOrders", fn := fun _ => fun
  | [d1, d2] => { results := [.lit (.bool false)], args := [d1, d2] }
  | _ => none }
def DepthOrdersWrongFalsely : Prop := depthOrdersRow.holds Try.pinned (OpenSpec.ofChange depthOrdersWrong)

/-- 'consolslaw16.DepthLevels': WHATEVER THE INPUT: true; the input reads as it did. -/
def depthLevelsSpec : ChangeSpec := { name := "depthLevels", fn := fun _ => fun
  | [d1, d2] => { results := [.lit (.bool true)], args := [d1, d2] }
  | _ => none }
def depthLevelsRow : OpenClaim := { program := "ytiefkpfamkkapaa", sum := "fdca8d27e4f1aed0ea437b32e71982410dd25c3fea50a3f24bb696683480775c", func := "consols/consolslaw16.DepthLevels", spec := "depthLevels", inPlace := ["math/bits.Add64"], unfollowed := true, recurses := true, apart := false }
def DepthLevelsSaid : Prop := depthLevelsRow.holds Try.pinned (OpenSpec.ofChange depthLevelsSpec)

/-- ITS FALSE NEIGHBOUR: 'it returns false'. Refute it at one input. -/
def depthLevelsWrong : ChangeSpec := { name := "depthLevels", fn := fun _ => fun
  | [d1, d2] => { results := [.lit (.bool false)], args := [d1, d2] }
  | _ => none }
def DepthLevelsWrongFalsely : Prop := depthLevelsRow.holds Try.pinned (OpenSpec.ofChange depthLevelsWrong)

/-- 'consolslaw16.DepthTells': WHATEVER THE INPUT: true; the input reads as it did. -/
def depthTellsSpec : ChangeSpec := { name := "depthTells", fn := fun _ => fun
  | [d1, d2, d3] => { results := [.lit (.bool true)], args := [d1, d2, d3] }
  | _ => none }
def depthTellsRow : OpenClaim := { program := "ytiefkpfamkkapaa", sum := "fdca8d27e4f1aed0ea437b32e71982410dd25c3fea50a3f24bb696683480775c", func := "consols/consolslaw16.DepthTells", spec := "depthTells", inPlace := ["math/bits.Add64"], unfollowed := true, recurses := true, apart := false }
def DepthTellsSaid : Prop := depthTellsRow.holds Try.pinned (OpenSpec.ofChange depthTellsSpec)

/-- ITS FALSE NEIGHBOUR: 'it returns false'. Refute it at one input. -/
def depthTellsWrong : ChangeSpec := { name := "depthTells", fn := fun _ => fun
  | [d1, d2, d3] => { results := [.lit (.bool false)], args := [d1, d2, d3] }
  | _ => none }
def DepthTellsWrongFalsely : Prop := depthTellsRow.holds Try.pinned (OpenSpec.ofChange depthTellsWrong)

/-- 'consolslaw19.GateEmpty': WHATEVER THE INPUT: true; the input reads as it did. -/
def gateEmptySpec : ChangeSpec := { name := "gateEmpty", fn := fun _ => fun
  | [d1, d2, d3] => { results := [.lit (.bool true)], args := [d1, d2, d3] }
  | _ => none }
def gateEmptyRow : OpenClaim := { program := "ytiefkpfamkkapaa", sum := "fdca8d27e4f1aed0ea437b32e71982410dd25c3fea50a3f24bb696683480775c", func := "consols/consolslaw19.GateEmpty", spec := "gateEmpty", inPlace := ["math/bits.Add64"], unfollowed := true, recurses := true, apart := false }
def GateEmptySaid : Prop := gateEmptyRow.holds Try.pinned (OpenSpec.ofChange gateEmptySpec)

/-- ITS FALSE NEIGHBOUR: 'it returns false'. Refute it at one input. -/
def gateEmptyWrong : ChangeSpec := { name := "gateEmpty", fn := fun _ => fun
  | [d1, d2, d3] => { results := [.lit (.bool false)], args := [d1, d2, d3] }
  | _ => none }
def GateEmptyWrongFalsely : Prop := gateEmptyRow.holds Try.pinned (OpenSpec.ofChange gateEmptyWrong)

/-- 'consolslaw19.GateEdge': WHATEVER THE INPUT: true; the input reads as it did. -/
def gateEdgeSpec : ChangeSpec := { name := "gateEdge", fn := fun _ => fun
  | [d1, d2, d3, d4] => { results := [.lit (.bool true)], args := [d1, d2, d3, d4] }
  | _ => none }
def gateEdgeRow : OpenClaim := { program := "ytiefkpfamkkapaa", sum := "fdca8d27e4f1aed0ea437b32e71982410dd25c3fea50a3f24bb696683480775c", func := "consols/consolslaw19.GateEdge", spec := "gateEdge", inPlace := ["math/bits.Add64"], unfollowed := true, recurses := true, apart := false }
def GateEdgeSaid : Prop := gateEdgeRow.holds Try.pinned (OpenSpec.ofChange gateEdgeSpec)

/-- ITS FALSE NEIGHBOUR: 'it returns false'. Refute it at one input. -/
def gateEdgeWrong : ChangeSpec := { name := "gateEdge", fn := fun _ => fun
  | [d1, d2, d3, d4] => { results := [.lit (.bool false)], args := [d1, d2, d3, d4] }
  | _ => none }
def GateEdgeWrongFalsely : Prop := gateEdgeRow.holds Try.pinned (OpenSpec.ofChange gateEdgeWrong)

/-- 'consolslaw19.GateOne': WHATEVER THE INPUT: true; the input reads as it did. -/
def gateOneSpec : ChangeSpec := { name := "gateOne", fn := fun _ => fun
  | [d1, d2, d3, d4, d5] => { results := [.lit (.bool true)], args := [d1, d2, d3, d4, d5] }
  | _ => none }
def gateOneRow : OpenClaim := { program := "ytiefkpfamkkapaa", sum := "fdca8d27e4f1aed0ea437b32e71982410dd25c3fea50a3f24bb696683480775c", func := "consols/consolslaw19.GateOne", spec := "gateOne", inPlace := ["math/bits.Add64"], unfollowed := true, recurses := true, apart := false }
def GateOneSaid : Prop := gateOneRow.holds Try.pinned (OpenSpec.ofChange gateOneSpec)

/-- ITS FALSE NEIGHBOUR: 'it returns false'. Refute it at one input. -/
def gateOneWrong : ChangeSpec := { name := "gateOne", fn := fun _ => fun
  | [d1, d2, d3, d4, d5] => { results := [.lit (.bool false)], args := [d1, d2, d3, d4, d5] }
  | _ => none }
def GateOneWrongFalsely : Prop := gateOneRow.holds Try.pinned (OpenSpec.ofChange gateOneWrong)

/-- 'consolslaw19.GateChecks': WHATEVER THE INPUT: true; the input reads as it did. -/
def gateChecksSpec : ChangeSpec := { name := "gateChecks", fn := fun _ => fun
  | [d1, d2, d3, d4] => { results := [.lit (.bool true)], args := [d1, d2, d3, d4] }
  | _ => none }
def gateChecksRow : OpenClaim := { program := "ytiefkpfamkkapaa", sum := "fdca8d27e4f1aed0ea437b32e71982410dd25c3fea50a3f24bb696683480775c", func := "consols/consolslaw19.GateChecks", spec := "gateChecks", inPlace := ["math/bits.Add64"], unfollowed := true, recurses := true, apart := false }
def GateChecksSaid : Prop := gateChecksRow.holds Try.pinned (OpenSpec.ofChange gateChecksSpec)

/-- ITS FALSE NEIGHBOUR: 'it returns false'. Refute it at one input. -/
def gateChecksWrong : ChangeSpec := { name := "gateChecks", fn := fun _ => fun
  | [d1, d2, d3, d4] => { results := [.lit (.bool false)], args := [d1, d2, d3, d4] }
  | _ => none }
def GateChecksWrongFalsely : Prop := gateChecksRow.holds Try.pinned (OpenSpec.ofChange gateChecksWrong)

/-- 'consolslaw19.GateBest': WHATEVER THE INPUT: true; the input reads as it did. -/
def gateBestSpec : ChangeSpec := { name := "gateBest", fn := fun _ => fun
  | [d1, d2] => { results := [.lit (.bool true)], args := [d1, d2] }
  | _ => none }
def gateBestRow : OpenClaim := { program := "ytiefkpfamkkapaa", sum := "fdca8d27e4f1aed0ea437b32e71982410dd25c3fea50a3f24bb696683480775c", func := "consols/consolslaw19.GateBest", spec := "gateBest", inPlace := ["math/bits.Add64"], unfollowed := true, recurses := true, apart := false }
def GateBestSaid : Prop := gateBestRow.holds Try.pinned (OpenSpec.ofChange gateBestSpec)

/-- ITS FALSE NEIGHBOUR: 'it returns false'. Refute it at one input. -/
def gateBestWrong : ChangeSpec := { name := "gateBest", fn := fun _ => fun
  | [d1, d2] => { results := [.lit (.bool false)], args := [d1, d2] }
  | _ => none }
def GateBestWrongFalsely : Prop := gateBestRow.holds Try.pinned (OpenSpec.ofChange gateBestWrong)

/-- 'consolslaw15.CrossPlays': WHATEVER THE INPUT: true; the input reads as it did. -/
def crossPlaysSpec : ChangeSpec := { name := "crossPlays", fn := fun _ => fun
  | [d] => { results := [.lit (.bool true)], args := [d] }
  | _ => none }
def crossPlaysRow : OpenClaim := { program := "ytiefkpfamkkapaa", sum := "fdca8d27e4f1aed0ea437b32e71982410dd25c3fea50a3f24bb696683480775c", func := "consols/consolslaw15.CrossPlays", spec := "crossPlays", unfollowed := true, recurses := true, apart := false }
def CrossPlaysSaid : Prop := crossPlaysRow.holds Try.pinned (OpenSpec.ofChange crossPlaysSpec)

/-- ITS FALSE NEIGHBOUR: 'it returns false'. Refute it at one input. -/
def crossPlaysWrong : ChangeSpec := { name := "crossPlays", fn := fun _ => fun
  | [d] => { results := [.lit (.bool false)], args := [d] }
  | _ => none }
def CrossPlaysWrongFalsely : Prop := crossPlaysRow.holds Try.pinned (OpenSpec.ofChange crossPlaysWrong)

/-- 'consolslaw15.CrossPrices': WHATEVER THE INPUT: true; the input reads as it did. -/
def crossPricesSpec : ChangeSpec := { name := "crossPrices", fn := fun _ => fun
  | [d1, d2, d3] => { results := [.lit (.bool true)], args := [d1, d2, d3] }
  | _ => none }
def crossPricesRow : OpenClaim := { program := "ytiefkpfamkkapaa", sum := "fdca8d27e4f1aed0ea437b32e71982410dd25c3fea50a3f24bb696683480775c", func := "consols/consolslaw15.CrossPrices", spec := "crossPrices", unfollowed := true, recurses := true, apart := false }
def CrossPricesSaid : Prop := crossPricesRow.holds Try.pinned (OpenSpec.ofChange crossPricesSpec)

/-- ITS FALSE NEIGHBOUR: 'it returns false'. Refute it at one input. -/
def crossPricesWrong : ChangeSpec := { name := "crossPrices", fn := fun _ => fun
  | [d1, d2, d3] => { results := [.lit (.bool false)], args := [d1, d2, d3] }
  | _ => none }
def CrossPricesWrongFalsely : Prop := crossPricesRow.holds Try.pinned (OpenSpec.ofChange crossPricesWrong)

/-- 'consolslaw15.CrossWhole': WHATEVER THE INPUT: true; the input reads as it did. -/
def crossWholeSpec : ChangeSpec := { name := "crossWhole", fn := fun _ => fun
  | [d1, d2] => { results := [.lit (.bool true)], args := [d1, d2] }
  | _ => none }
def crossWholeRow : OpenClaim := { program := "ytiefkpfamkkapaa", sum := "fdca8d27e4f1aed0ea437b32e71982410dd25c3fea50a3f24bb696683480775c", func := "consols/consolslaw15.CrossWhole", spec := "crossWhole", unfollowed := true, recurses := true, apart := false }
def CrossWholeSaid : Prop := crossWholeRow.holds Try.pinned (OpenSpec.ofChange crossWholeSpec)

/-- ITS FALSE NEIGHBOUR: 'it returns false'. Refute it at one input. -/
def crossWholeWrong : ChangeSpec := { name := "crossWhole", fn := fun _ => fun
  | [d1, d2] => { results := [.lit (.bool false)], args := [d1, d2] }
  | _ => none }
def CrossWholeWrongFalsely : Prop := crossWholeRow.holds Try.pinned (OpenSpec.ofChange crossWholeWrong)

/-- 'consolslaw15.CrossSelf': WHATEVER THE INPUT: true; the input reads as it did. -/
def crossSelfSpec : ChangeSpec := { name := "crossSelf", fn := fun _ => fun
  | [d1, d2, d3] => { results := [.lit (.bool true)], args := [d1, d2, d3] }
  | _ => none }
def crossSelfRow : OpenClaim := { program := "ytiefkpfamkkapaa", sum := "fdca8d27e4f1aed0ea437b32e71982410dd25c3fea50a3f24bb696683480775c", func := "consols/consolslaw15.CrossSelf", spec := "crossSelf", unfollowed := true, recurses := true, apart := false }
def CrossSelfSaid : Prop := crossSelfRow.holds Try.pinned (OpenSpec.ofChange crossSelfSpec)

/-- ITS FALSE NEIGHBOUR: 'it returns false'. Refute it at one input. -/
def crossSelfWrong : ChangeSpec := { name := "crossSelf", fn := fun _ => fun
  | [d1, d2, d3] => { results := [.lit (.bool false)], args := [d1, d2, d3] }
  | _ => none }
def CrossSelfWrongFalsely : Prop := crossSelfRow.holds Try.pinned (OpenSpec.ofChange crossSelfWrong)

/-- 'consolslaw15.CrossFull': WHATEVER THE INPUT: true; the input reads as it did. -/
def crossFullSpec : ChangeSpec := { name := "crossFull", fn := fun _ => fun
  | [d] => { results := [.lit (.bool true)], args := [d] }
  | _ => none }
def crossFullRow : OpenClaim := { program := "ytiefkpfamkkapaa", sum := "fdca8d27e4f1aed0ea437b32e71982410dd25c3fea50a3f24bb696683480775c", func := "consols/consolslaw15.CrossFull", spec := "crossFull", unfollowed := true, recurses := true, apart := false }
def CrossFullSaid : Prop := crossFullRow.holds Try.pinned (OpenSpec.ofChange crossFullSpec)

/-- ITS FALSE NEIGHBOUR: 'it returns false'. Refute it at one input. -/
def crossFullWrong : ChangeSpec := { name := "crossFull", fn := fun _ => fun
  | [d] => { results := [.lit (.bool false)], args := [d] }
  | _ => none }
def CrossFullWrongFalsely : Prop := crossFullRow.holds Try.pinned (OpenSpec.ofChange crossFullWrong)

/-- 'consolslaw15.CrossPosts': WHATEVER THE INPUT: true; the input reads as it did. -/
def crossPostsSpec : ChangeSpec := { name := "crossPosts", fn := fun _ => fun
  | [d1, d2] => { results := [.lit (.bool true)], args := [d1, d2] }
  | _ => none }
def crossPostsRow : OpenClaim := { program := "ytiefkpfamkkapaa", sum := "fdca8d27e4f1aed0ea437b32e71982410dd25c3fea50a3f24bb696683480775c", func := "consols/consolslaw15.CrossPosts", spec := "crossPosts", unfollowed := true, recurses := true, apart := false }
def CrossPostsSaid : Prop := crossPostsRow.holds Try.pinned (OpenSpec.ofChange crossPostsSpec)

/-- ITS FALSE NEIGHBOUR: 'it returns false'. Refute it at one input. -/
def crossPostsWrong : ChangeSpec := { name := "crossPosts", fn := fun _ => fun
  | [d1, d2] => { results := [.lit (.bool false)], args := [d1, d2] }
  | _ => none }
def CrossPostsWrongFalsely : Prop := crossPostsRow.holds Try.pinned (OpenSpec.ofChange crossPostsWrong)

/-- 'consolslaw15.CrossNow': WHATEVER THE INPUT: true; the input reads as it did. -/
def crossNowSpec : ChangeSpec := { name := "crossNow", fn := fun _ => fun
  | [d1, d2, d3] => { results := [.lit (.bool true)], args := [d1, d2, d3] }
  | _ => none }
def crossNowRow : OpenClaim := { program := "ytiefkpfamkkapaa", sum := "fdca8d27e4f1aed0ea437b32e71982410dd25c3fea50a3f24bb696683480775c", func := "consols/consolslaw15.CrossNow", spec := "crossNow", unfollowed := true, recurses := true, apart := false }
def CrossNowSaid : Prop := crossNowRow.holds Try.pinned (OpenSpec.ofChange crossNowSpec)

/-- ITS FALSE NEIGHBOUR: 'it returns false'. Refute it at one input. -/
def crossNowWrong : ChangeSpec := { name := "crossNow", fn := fun _ => fun
  | [d1, d2, d3] => { results := [.lit (.bool false)], args := [d1, d2, d3] }
  | _ => none }
def CrossNowWrongFalsely : Prop := crossNowRow.holds Try.pinned (OpenSpec.ofChange crossNowWrong)

/-- 'consolslaw15.CrossStays': WHATEVER THE INPUT: true; the input reads as it did. -/
def crossStaysSpec : ChangeSpec := { name := "crossStays", fn := fun _ => fun
  | [d] => { results := [.lit (.bool true)], args := [d] }
  | _ => none }
def crossStaysRow : OpenClaim := { program := "ytiefkpfamkkapaa", sum := "fdca8d27e4f1aed0ea437b32e71982410dd25c3fea50a3f24bb696683480775c", func := "consols/consolslaw15.CrossStays", spec := "crossStays", unfollowed := true, recurses := true, apart := false }
def CrossStaysSaid : Prop := crossStaysRow.holds Try.pinned (OpenSpec.ofChange crossStaysSpec)

/-- ITS FALSE NEIGHBOUR: 'it returns false'. Refute it at one input. -/
def crossStaysWrong : ChangeSpec := { name := "crossStays", fn := fun _ => fun
  | [d] => { results := [.lit (.bool false)], args := [d] }
  | _ => none }
def CrossStaysWrongFalsely : Prop := crossStaysRow.holds Try.pinned (OpenSpec.ofChange crossStaysWrong)

/- THE SECOND FORM. 'bulk': how many values and letters a reading holds, each counted each time it is reached (what is shared counts as often as it is met; a slice's spare places count too). A statement '..UptoSaid' is the law's where the arguments, and the package variables that the reading takes, are together of bulk at most 1048576: NARROWER than '..Said'. Prove '..Said' where nothing that the law and all that it calls make is longer than what came in: it says more and counts as full. Else prove '..UptoSaid'. A law counts once. -/
mutual
def uptoBulk {H : Type} : DataW H → Nat
  | .lit (.string bytes) => bytes.length + 1
  | .lit _ => 1
  | .nil => 1
  | .ptr d => uptoBulk d + 1
  | .slice elems spare => uptoBulkAll elems + uptoBulkAll spare + 1
  | .agg parts => uptoBulkAll parts + 1
  | .iface _ d => uptoBulk d + 1
  | .map entries => uptoBulkEntries entries + 1
  | .held _ => 1
def uptoBulkAll {H : Type} : List (DataW H) → Nat
  | [] => 0
  | d :: r => uptoBulk d + uptoBulkAll r
def uptoBulkEntries {H : Type} : List (Lit × DataW H) → Nat
  | [] => 0
  | x :: r => uptoBulkEntry x + uptoBulkEntries r
def uptoBulkEntry {H : Type} : Lit × DataW H → Nat
  | (.string bytes, d) => bytes.length + uptoBulk d + 1
  | (_, d) => uptoBulk d + 1
 end
def uptoSmall : (H : Type) → List (DataW H) → Bool := fun _ ds => decide (uptoBulkAll ds ≤ 1048576)
def OpenSpec.upto (s : _root_.Go.ChangeSpec) : _root_.Go.OpenSpec := { _root_.Go.OpenSpec.ofChange s with cond := some uptoSmall }

/-- 'consolslaw14.BookSorts', WHERE WHAT IT READS IS OF BULK AT MOST 1048576: true; the input reads as it did. -/
def bookSortsUptoRow : OpenClaim := { program := "ytiefkpfamkkapaa", sum := "fdca8d27e4f1aed0ea437b32e71982410dd25c3fea50a3f24bb696683480775c", func := "consols/consolslaw14.BookSorts", spec := "bookSorts", unfollowed := true, recurses := true, apart := false, narrowed := true }
def BookSortsUptoSaid : Prop := bookSortsUptoRow.holds Try.pinned (OpenSpec.upto bookSortsSpec)

/-- 'consolslaw14.BookOwn', WHERE WHAT IT READS IS OF BULK AT MOST 1048576: true; the input reads as it did. -/
def bookOwnUptoRow : OpenClaim := { program := "ytiefkpfamkkapaa", sum := "fdca8d27e4f1aed0ea437b32e71982410dd25c3fea50a3f24bb696683480775c", func := "consols/consolslaw14.BookOwn", spec := "bookOwn", unfollowed := true, recurses := true, apart := false, narrowed := true }
def BookOwnUptoSaid : Prop := bookOwnUptoRow.holds Try.pinned (OpenSpec.upto bookOwnSpec)

/-- 'consolslaw14.BookLess', WHERE WHAT IT READS IS OF BULK AT MOST 1048576: true; the input reads as it did. -/
def bookLessUptoRow : OpenClaim := { program := "ytiefkpfamkkapaa", sum := "fdca8d27e4f1aed0ea437b32e71982410dd25c3fea50a3f24bb696683480775c", func := "consols/consolslaw14.BookLess", spec := "bookLess", unfollowed := true, recurses := true, apart := false, narrowed := true }
def BookLessUptoSaid : Prop := bookLessUptoRow.holds Try.pinned (OpenSpec.upto bookLessSpec)

/-- 'consolslaw14.BookFull', WHERE WHAT IT READS IS OF BULK AT MOST 1048576: true; the input reads as it did. -/
def bookFullUptoRow : OpenClaim := { program := "ytiefkpfamkkapaa", sum := "fdca8d27e4f1aed0ea437b32e71982410dd25c3fea50a3f24bb696683480775c", func := "consols/consolslaw14.BookFull", spec := "bookFull", unfollowed := true, recurses := true, apart := false, narrowed := true }
def BookFullUptoSaid : Prop := bookFullUptoRow.holds Try.pinned (OpenSpec.upto bookFullSpec)

/-- 'consolslaw14.BookPlays', WHERE WHAT IT READS IS OF BULK AT MOST 1048576: true; the input reads as it did. -/
def bookPlaysUptoRow : OpenClaim := { program := "ytiefkpfamkkapaa", sum := "fdca8d27e4f1aed0ea437b32e71982410dd25c3fea50a3f24bb696683480775c", func := "consols/consolslaw14.BookPlays", spec := "bookPlays", unfollowed := true, recurses := true, apart := false, narrowed := true }
def BookPlaysUptoSaid : Prop := bookPlaysUptoRow.holds Try.pinned (OpenSpec.upto bookPlaysSpec)

/-- 'consolslaw16.DepthMore', WHERE WHAT IT READS IS OF BULK AT MOST 1048576: true; the input reads as it did. -/
def depthMoreUptoRow : OpenClaim := { program := "ytiefkpfamkkapaa", sum := "fdca8d27e4f1aed0ea437b32e71982410dd25c3fea50a3f24bb696683480775c", func := "consols/consolslaw16.DepthMore", spec := "depthMore", inPlace := ["math/bits.Add64"], unfollowed := true, recurses := true, apart := false, narrowed := true }
def DepthMoreUptoSaid : Prop := depthMoreUptoRow.holds Try.pinned (OpenSpec.upto depthMoreSpec)

/-- 'consolslaw16.DepthOrders', WHERE WHAT IT READS IS OF BULK AT MOST 1048576: true; the input reads as it did. -/
def depthOrdersUptoRow : OpenClaim := { program := "ytiefkpfamkkapaa", sum := "fdca8d27e4f1aed0ea437b32e71982410dd25c3fea50a3f24bb696683480775c", func := "consols/consolslaw16.DepthOrders", spec := "depthOrders", inPlace := ["math/bits.Add64"], unfollowed := true, recurses := true, apart := false, narrowed := true }
def DepthOrdersUptoSaid : Prop := depthOrdersUptoRow.holds Try.pinned (OpenSpec.upto depthOrdersSpec)

/-- 'consolslaw16.DepthLevels', WHERE WHAT IT READS IS OF BULK AT MOST 1048576: true; the input reads as it did. -/
def depthLevelsUptoRow : OpenClaim := { program := "ytiefkpfamkkapaa", sum := "fdca8d27e4f1aed0ea437b32e71982410dd25c3fea50a3f24bb696683480775c", func := "consols/consolslaw16.DepthLevels", spec := "depthLevels", inPlace := ["math/bits.Add64"], unfollowed := true, recurses := true, apart := false, narrowed := true }
def DepthLevelsUptoSaid : Prop := depthLevelsUptoRow.holds Try.pinned (OpenSpec.upto depthLevelsSpec)

/-- 'consolslaw16.DepthTells', WHERE WHAT IT READS IS OF BULK AT MOST 1048576: true; the input reads as it did. -/
def depthTellsUptoRow : OpenClaim := { program := "ytiefkpfamkkapaa", sum := "fdca8d27e4f1aed0ea437b32e71982410dd25c3fea50a3f24bb696683480775c", func := "consols/consolslaw16.DepthTells", spec := "depthTells", inPlace := ["math/bits.Add64"], unfollowed := true, recurses := true, apart := false, narrowed := true }
def DepthTellsUptoSaid : Prop := depthTellsUptoRow.holds Try.pinned (OpenSpec.upto depthTellsSpec)

/-- 'consolslaw19.GateEmpty', WHERE WHAT IT READS IS OF BULK AT MOST 1048576: true; the input reads as it did. -/
def gateEmptyUptoRow : OpenClaim := { program := "ytiefkpfamkkapaa", sum := "fdca8d27e4f1aed0ea437b32e71982410dd25c3fea50a3f24bb696683480775c", func := "consols/consolslaw19.GateEmpty", spec := "gateEmpty", inPlace := ["math/bits.Add64"], unfollowed := true, recurses := true, apart := false, narrowed := true }
def GateEmptyUptoSaid : Prop := gateEmptyUptoRow.holds Try.pinned (OpenSpec.upto gateEmptySpec)

/-- 'consolslaw19.GateEdge', WHERE WHAT IT READS IS OF BULK AT MOST 1048576: true; the input reads as it did. -/
def gateEdgeUptoRow : OpenClaim := { program := "ytiefkpfamkkapaa", sum := "fdca8d27e4f1aed0ea437b32e71982410dd25c3fea50a3f24bb696683480775c", func := "consols/consolslaw19.GateEdge", spec := "gateEdge", inPlace := ["math/bits.Add64"], unfollowed := true, recurses := true, apart := false, narrowed := true }
def GateEdgeUptoSaid : Prop := gateEdgeUptoRow.holds Try.pinned (OpenSpec.upto gateEdgeSpec)

/-- 'consolslaw19.GateOne', WHERE WHAT IT READS IS OF BULK AT MOST 1048576: true; the input reads as it did. -/
def gateOneUptoRow : OpenClaim := { program := "ytiefkpfamkkapaa", sum := "fdca8d27e4f1aed0ea437b32e71982410dd25c3fea50a3f24bb696683480775c", func := "consols/consolslaw19.GateOne", spec := "gateOne", inPlace := ["math/bits.Add64"], unfollowed := true, recurses := true, apart := false, narrowed := true }
def GateOneUptoSaid : Prop := gateOneUptoRow.holds Try.pinned (OpenSpec.upto gateOneSpec)

/-- 'consolslaw19.GateChecks', WHERE WHAT IT READS IS OF BULK AT MOST 1048576: true; the input reads as it did. -/
def gateChecksUptoRow : OpenClaim := { program := "ytiefkpfamkkapaa", sum := "fdca8d27e4f1aed0ea437b32e71982410dd25c3fea50a3f24bb696683480775c", func := "consols/consolslaw19.GateChecks", spec := "gateChecks", inPlace := ["math/bits.Add64"], unfollowed := true, recurses := true, apart := false, narrowed := true }
def GateChecksUptoSaid : Prop := gateChecksUptoRow.holds Try.pinned (OpenSpec.upto gateChecksSpec)

/-- 'consolslaw19.GateBest', WHERE WHAT IT READS IS OF BULK AT MOST 1048576: true; the input reads as it did. -/
def gateBestUptoRow : OpenClaim := { program := "ytiefkpfamkkapaa", sum := "fdca8d27e4f1aed0ea437b32e71982410dd25c3fea50a3f24bb696683480775c", func := "consols/consolslaw19.GateBest", spec := "gateBest", inPlace := ["math/bits.Add64"], unfollowed := true, recurses := true, apart := false, narrowed := true }
def GateBestUptoSaid : Prop := gateBestUptoRow.holds Try.pinned (OpenSpec.upto gateBestSpec)

/-- 'consolslaw15.CrossPlays', WHERE WHAT IT READS IS OF BULK AT MOST 1048576: true; the input reads as it did. -/
def crossPlaysUptoRow : OpenClaim := { program := "ytiefkpfamkkapaa", sum := "fdca8d27e4f1aed0ea437b32e71982410dd25c3fea50a3f24bb696683480775c", func := "consols/consolslaw15.CrossPlays", spec := "crossPlays", unfollowed := true, recurses := true, apart := false, narrowed := true }
def CrossPlaysUptoSaid : Prop := crossPlaysUptoRow.holds Try.pinned (OpenSpec.upto crossPlaysSpec)

/-- 'consolslaw15.CrossPrices', WHERE WHAT IT READS IS OF BULK AT MOST 1048576: true; the input reads as it did. -/
def crossPricesUptoRow : OpenClaim := { program := "ytiefkpfamkkapaa", sum := "fdca8d27e4f1aed0ea437b32e71982410dd25c3fea50a3f24bb696683480775c", func := "consols/consolslaw15.CrossPrices", spec := "crossPrices", unfollowed := true, recurses := true, apart := false, narrowed := true }
def CrossPricesUptoSaid : Prop := crossPricesUptoRow.holds Try.pinned (OpenSpec.upto crossPricesSpec)

/-- 'consolslaw15.CrossWhole', WHERE WHAT IT READS IS OF BULK AT MOST 1048576: true; the input reads as it did. -/
def crossWholeUptoRow : OpenClaim := { program := "ytiefkpfamkkapaa", sum := "fdca8d27e4f1aed0ea437b32e71982410dd25c3fea50a3f24bb696683480775c", func := "consols/consolslaw15.CrossWhole", spec := "crossWhole", unfollowed := true, recurses := true, apart := false, narrowed := true }
def CrossWholeUptoSaid : Prop := crossWholeUptoRow.holds Try.pinned (OpenSpec.upto crossWholeSpec)

/-- 'consolslaw15.CrossSelf', WHERE WHAT IT READS IS OF BULK AT MOST 1048576: true; the input reads as it did. -/
def crossSelfUptoRow : OpenClaim := { program := "ytiefkpfamkkapaa", sum := "fdca8d27e4f1aed0ea437b32e71982410dd25c3fea50a3f24bb696683480775c", func := "consols/consolslaw15.CrossSelf", spec := "crossSelf", unfollowed := true, recurses := true, apart := false, narrowed := true }
def CrossSelfUptoSaid : Prop := crossSelfUptoRow.holds Try.pinned (OpenSpec.upto crossSelfSpec)

/-- 'consolslaw15.CrossFull', WHERE WHAT IT READS IS OF BULK AT MOST 1048576: true; the input reads as it did. -/
def crossFullUptoRow : OpenClaim := { program := "ytiefkpfamkkapaa", sum := "fdca8d27e4f1aed0ea437b32e71982410dd25c3fea50a3f24bb696683480775c", func := "consols/consolslaw15.CrossFull", spec := "crossFull", unfollowed := true, recurses := true, apart := false, narrowed := true }
def CrossFullUptoSaid : Prop := crossFullUptoRow.holds Try.pinned (OpenSpec.upto crossFullSpec)

/-- 'consolslaw15.CrossPosts', WHERE WHAT IT READS IS OF BULK AT MOST 1048576: true; the input reads as it did. -/
def crossPostsUptoRow : OpenClaim := { program := "ytiefkpfamkkapaa", sum := "fdca8d27e4f1aed0ea437b32e71982410dd25c3fea50a3f24bb696683480775c", func := "consols/consolslaw15.CrossPosts", spec := "crossPosts", unfollowed := true, recurses := true, apart := false, narrowed := true }
def CrossPostsUptoSaid : Prop := crossPostsUptoRow.holds Try.pinned (OpenSpec.upto crossPostsSpec)

/-- 'consolslaw15.CrossNow', WHERE WHAT IT READS IS OF BULK AT MOST 1048576: true; the input reads as it did. -/
def crossNowUptoRow : OpenClaim := { program := "ytiefkpfamkkapaa", sum := "fdca8d27e4f1aed0ea437b32e71982410dd25c3fea50a3f24bb696683480775c", func := "consols/consolslaw15.CrossNow", spec := "crossNow", unfollowed := true, recurses := true, apart := false, narrowed := true }
def CrossNowUptoSaid : Prop := crossNowUptoRow.holds Try.pinned (OpenSpec.upto crossNowSpec)

/-- 'consolslaw15.CrossStays', WHERE WHAT IT READS IS OF BULK AT MOST 1048576: true; the input reads as it did. -/
def crossStaysUptoRow : OpenClaim := { program := "ytiefkpfamkkapaa", sum := "fdca8d27e4f1aed0ea437b32e71982410dd25c3fea50a3f24bb696683480775c", func := "consols/consolslaw15.CrossStays", spec := "crossStays", unfollowed := true, recurses := true, apart := false, narrowed := true }
def CrossStaysUptoSaid : Prop := crossStaysUptoRow.holds Try.pinned (OpenSpec.upto crossStaysSpec)

end Rows
end Go.Proofs.Ytiefkpfamkkapaa
