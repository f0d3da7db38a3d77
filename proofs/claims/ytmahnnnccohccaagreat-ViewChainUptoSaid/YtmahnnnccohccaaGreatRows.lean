/-
  No cell of these rows narrows 'for every input' (looked for: loops, veiled, ifaces, maps, wideKeys, modest, calm, conditions, laid).
  DERIVED. THE GIVEN ROWS OF THIS SEAT. 14 by the template 'for every input the law returns true; each argument reads behind the call as it read before'; 0 by the template 'total and deterministic' (their statements: YtmahnnnccohccaaGreatTotals.lean).
  GIVEN WITH THE SEED: the statements are not yours to turn. If you find one false, say at which input.
  Laid BY PROGRAM, IN A SANDBOX (cutbox-rows.mjs): the forced cells as the released guide's own fill.sh prints them over the translation d98548501bfdf969… (all of the seat's roots in one cut). By AI agents, Wed Nov 11 2026. No macro, syntax, notation, axiom, sorry.
-/
import Derived.Test.YtmahnnnccohccaaGreatChecked
import GoSem.Claim
import GoSem.ClaimJoined
import GoSem.ClaimMapViews
import Derived.JoinedTies
import Derived.KernelRfl
namespace Go.Proofs.YtmahnnnccohccaaGreat
/- THE CELL 'sum', in the pinned program and in every row, IS THE sha256 OF THE DUMP (.gsa) THAT YtmahnnnccohccaaGreatProg.lean LOADS. Nothing in Lean hashes anything: it is a label: what it is worth is what the hold of that sum in a sandbox is worth. -/
noncomputable def Tryz.pinned : Pinned := { name := "ytmahnnnccohccaagreat", sum := "d98548501bfdf969e93278859c64b2b7e5fa8464189d6e4954ca540124ebd60e", checked := Tryz.checked }
namespace Rows
def none {H : Type} : Left H := { results := [], args := [] }

/-- 'gatepostlaw19.IndexTakes': WHATEVER THE INPUT: true; the input reads as it did. -/
def indexTakesSpec : ChangeSpec := { name := "indexTakes", fn := fun _ => fun
  | [d1, d2, d3, d4] => { results := [.lit (.bool true)], args := [d1, d2, d3, d4] }
  | _ => none }
def indexTakesRow : OpenClaim := { program := "ytmahnnnccohccaagreat", sum := "d98548501bfdf969e93278859c64b2b7e5fa8464189d6e4954ca540124ebd60e", func := "gatepost/gatepostlaw19.IndexTakes", spec := "indexTakes", inPlace := ["slices.overlaps[uint32]"], unfollowed := true, recurses := true, apart := false }
def IndexTakesSaid : Prop := indexTakesRow.holds Tryz.pinned (OpenSpec.ofChange indexTakesSpec)

/-- ITS FALSE NEIGHBOUR: 'it returns false'. Refute it at one input. -/
def indexTakesWrong : ChangeSpec := { name := "indexTakes", fn := fun _ => fun
  | [d1, d2, d3, d4] => { results := [.lit (.bool false)], args := [d1, d2, d3, d4] }
  | _ => none }
def IndexTakesWrongFalsely : Prop := indexTakesRow.holds Tryz.pinned (OpenSpec.ofChange indexTakesWrong)

/-- 'gatepostlaw16.ConfigApplies': WHATEVER THE INPUT: true; the input reads as it did. -/
def configAppliesSpec : ChangeSpec := { name := "configApplies", fn := fun _ => fun
  | [d1, d2] => { results := [.lit (.bool true)], args := [d1, d2] }
  | _ => none }
def configAppliesRow : OpenClaim := { program := "ytmahnnnccohccaagreat", sum := "d98548501bfdf969e93278859c64b2b7e5fa8464189d6e4954ca540124ebd60e", func := "gatepost/gatepostlaw16.ConfigApplies", spec := "configApplies", unfollowed := true, recurses := true, apart := false }
def ConfigAppliesSaid : Prop := configAppliesRow.holds Tryz.pinned (OpenSpec.ofChange configAppliesSpec)

/-- ITS FALSE NEIGHBOUR: 'it returns false'. Refute it at one input. -/
def configAppliesWrong : ChangeSpec := { name := "configApplies", fn := fun _ => fun
  | [d1, d2] => { results := [.lit (.bool false)], args := [d1, d2] }
  | _ => none }
def ConfigAppliesWrongFalsely : Prop := configAppliesRow.holds Tryz.pinned (OpenSpec.ofChange configAppliesWrong)

/-- 'gatepostlaw19.IndexAsks': WHATEVER THE INPUT: true; the input reads as it did. -/
def indexAsksSpec : ChangeSpec := { name := "indexAsks", fn := fun _ => fun
  | [d1, d2, d3, d4, d5, d6, d7] => { results := [.lit (.bool true)], args := [d1, d2, d3, d4, d5, d6, d7] }
  | _ => none }
def indexAsksRow : OpenClaim := { program := "ytmahnnnccohccaagreat", sum := "d98548501bfdf969e93278859c64b2b7e5fa8464189d6e4954ca540124ebd60e", func := "gatepost/gatepostlaw19.IndexAsks", spec := "indexAsks", inPlace := ["slices.overlaps[uint32]"], unfollowed := true, recurses := true, apart := false }
def IndexAsksSaid : Prop := indexAsksRow.holds Tryz.pinned (OpenSpec.ofChange indexAsksSpec)

/-- ITS FALSE NEIGHBOUR: 'it returns false'. Refute it at one input. -/
def indexAsksWrong : ChangeSpec := { name := "indexAsks", fn := fun _ => fun
  | [d1, d2, d3, d4, d5, d6, d7] => { results := [.lit (.bool false)], args := [d1, d2, d3, d4, d5, d6, d7] }
  | _ => none }
def IndexAsksWrongFalsely : Prop := indexAsksRow.holds Tryz.pinned (OpenSpec.ofChange indexAsksWrong)

/-- 'gatepostlaw17.ViewOf': WHATEVER THE INPUT: true; the input reads as it did. -/
def viewOfSpec : ChangeSpec := { name := "viewOf", fn := fun _ => fun
  | [d1, d2] => { results := [.lit (.bool true)], args := [d1, d2] }
  | _ => none }
def viewOfRow : OpenClaim := { program := "ytmahnnnccohccaagreat", sum := "d98548501bfdf969e93278859c64b2b7e5fa8464189d6e4954ca540124ebd60e", func := "gatepost/gatepostlaw17.ViewOf", spec := "viewOf", unfollowed := true, recurses := true, apart := false }
def ViewOfSaid : Prop := viewOfRow.holds Tryz.pinned (OpenSpec.ofChange viewOfSpec)

/-- ITS FALSE NEIGHBOUR: 'it returns false'. Refute it at one input. -/
def viewOfWrong : ChangeSpec := { name := "viewOf", fn := fun _ => fun
  | [d1, d2] => { results := [.lit (.bool false)], args := [d1, d2] }
  | _ => none }
def ViewOfWrongFalsely : Prop := viewOfRow.holds Tryz.pinned (OpenSpec.ofChange viewOfWrong)

/-- 'gatepostlaw17.ViewChain': WHATEVER THE INPUT: true; the input reads as it did. -/
def viewChainSpec : ChangeSpec := { name := "viewChain", fn := fun _ => fun
  | [d1, d2, d3] => { results := [.lit (.bool true)], args := [d1, d2, d3] }
  | _ => none }
def viewChainRow : OpenClaim := { program := "ytmahnnnccohccaagreat", sum := "d98548501bfdf969e93278859c64b2b7e5fa8464189d6e4954ca540124ebd60e", func := "gatepost/gatepostlaw17.ViewChain", spec := "viewChain", unfollowed := true, recurses := true, apart := false }
def ViewChainSaid : Prop := viewChainRow.holds Tryz.pinned (OpenSpec.ofChange viewChainSpec)

/-- ITS FALSE NEIGHBOUR: 'it returns false'. Refute it at one input. -/
def viewChainWrong : ChangeSpec := { name := "viewChain", fn := fun _ => fun
  | [d1, d2, d3] => { results := [.lit (.bool false)], args := [d1, d2, d3] }
  | _ => none }
def ViewChainWrongFalsely : Prop := viewChainRow.holds Tryz.pinned (OpenSpec.ofChange viewChainWrong)

/-- 'gatepostlaw17.ViewDiffs': WHATEVER THE INPUT: true; the input reads as it did. -/
def viewDiffsSpec : ChangeSpec := { name := "viewDiffs", fn := fun _ => fun
  | [d1, d2, d3] => { results := [.lit (.bool true)], args := [d1, d2, d3] }
  | _ => none }
def viewDiffsRow : OpenClaim := { program := "ytmahnnnccohccaagreat", sum := "d98548501bfdf969e93278859c64b2b7e5fa8464189d6e4954ca540124ebd60e", func := "gatepost/gatepostlaw17.ViewDiffs", spec := "viewDiffs", unfollowed := true, recurses := true, apart := false }
def ViewDiffsSaid : Prop := viewDiffsRow.holds Tryz.pinned (OpenSpec.ofChange viewDiffsSpec)

/-- ITS FALSE NEIGHBOUR: 'it returns false'. Refute it at one input. -/
def viewDiffsWrong : ChangeSpec := { name := "viewDiffs", fn := fun _ => fun
  | [d1, d2, d3] => { results := [.lit (.bool false)], args := [d1, d2, d3] }
  | _ => none }
def ViewDiffsWrongFalsely : Prop := viewDiffsRow.holds Tryz.pinned (OpenSpec.ofChange viewDiffsWrong)

/-- 'gatepostlaw18.FeedAside': WHATEVER THE INPUT: true; the input reads as it did. -/
def feedAsideSpec : ChangeSpec := { name := "feedAside", fn := fun _ => fun
  | [d1, d2, d3, d4, d5] => { results := [.lit (.bool true)], args := [d1, d2, d3, d4, d5] }
  | _ => none }
def feedAsideRow : OpenClaim := { program := "ytmahnnnccohccaagreat", sum := "d98548501bfdf969e93278859c64b2b7e5fa8464189d6e4954ca540124ebd60e", func := "gatepost/gatepostlaw18.FeedAside", spec := "feedAside", unfollowed := true, recurses := true, apart := false }
def FeedAsideSaid : Prop := feedAsideRow.holds Tryz.pinned (OpenSpec.ofChange feedAsideSpec)

/-- ITS FALSE NEIGHBOUR: 'it returns false'. Refute it at one input. -/
def feedAsideWrong : ChangeSpec := { name := "feedAside", fn := fun _ => fun
  | [d1, d2, d3, d4, d5] => { results := [.lit (.bool false)], args := [d1, d2, d3, d4, d5] }
  | _ => none }
def FeedAsideWrongFalsely : Prop := feedAsideRow.holds Tryz.pinned (OpenSpec.ofChange feedAsideWrong)

/-- 'gatepostlaw18.FeedDoes': WHATEVER THE INPUT: true; the input reads as it did. -/
def feedDoesSpec : ChangeSpec := { name := "feedDoes", fn := fun _ => fun
  | [d1, d2, d3, d4, d5, d6, d7, d8] => { results := [.lit (.bool true)], args := [d1, d2, d3, d4, d5, d6, d7, d8] }
  | _ => none }
def feedDoesRow : OpenClaim := { program := "ytmahnnnccohccaagreat", sum := "d98548501bfdf969e93278859c64b2b7e5fa8464189d6e4954ca540124ebd60e", func := "gatepost/gatepostlaw18.FeedDoes", spec := "feedDoes", unfollowed := true, recurses := true, apart := false }
def FeedDoesSaid : Prop := feedDoesRow.holds Tryz.pinned (OpenSpec.ofChange feedDoesSpec)

/-- ITS FALSE NEIGHBOUR: 'it returns false'. Refute it at one input. -/
def feedDoesWrong : ChangeSpec := { name := "feedDoes", fn := fun _ => fun
  | [d1, d2, d3, d4, d5, d6, d7, d8] => { results := [.lit (.bool false)], args := [d1, d2, d3, d4, d5, d6, d7, d8] }
  | _ => none }
def FeedDoesWrongFalsely : Prop := feedDoesRow.holds Tryz.pinned (OpenSpec.ofChange feedDoesWrong)

/-- 'gatepostlaw16.ConfigBytes': WHATEVER THE INPUT: true; the input reads as it did. -/
def configBytesSpec : ChangeSpec := { name := "configBytes", fn := fun _ => fun
  | [d1, d2, d3, d4, d5] => { results := [.lit (.bool true)], args := [d1, d2, d3, d4, d5] }
  | _ => none }
def configBytesRow : OpenClaim := { program := "ytmahnnnccohccaagreat", sum := "d98548501bfdf969e93278859c64b2b7e5fa8464189d6e4954ca540124ebd60e", func := "gatepost/gatepostlaw16.ConfigBytes", spec := "configBytes", unfollowed := true, recurses := true, apart := false }
def ConfigBytesSaid : Prop := configBytesRow.holds Tryz.pinned (OpenSpec.ofChange configBytesSpec)

/-- ITS FALSE NEIGHBOUR: 'it returns false'. Refute it at one input. -/
def configBytesWrong : ChangeSpec := { name := "configBytes", fn := fun _ => fun
  | [d1, d2, d3, d4, d5] => { results := [.lit (.bool false)], args := [d1, d2, d3, d4, d5] }
  | _ => none }
def ConfigBytesWrongFalsely : Prop := configBytesRow.holds Tryz.pinned (OpenSpec.ofChange configBytesWrong)

/-- 'gatepostlaw16.ConfigBack': WHATEVER THE INPUT: true; the input reads as it did. -/
def configBackSpec : ChangeSpec := { name := "configBack", fn := fun _ => fun
  | [d1, d2, d3, d4] => { results := [.lit (.bool true)], args := [d1, d2, d3, d4] }
  | _ => none }
def configBackRow : OpenClaim := { program := "ytmahnnnccohccaagreat", sum := "d98548501bfdf969e93278859c64b2b7e5fa8464189d6e4954ca540124ebd60e", func := "gatepost/gatepostlaw16.ConfigBack", spec := "configBack", unfollowed := true, recurses := true, apart := false }
def ConfigBackSaid : Prop := configBackRow.holds Tryz.pinned (OpenSpec.ofChange configBackSpec)

/-- ITS FALSE NEIGHBOUR: 'it returns false'. Refute it at one input. -/
def configBackWrong : ChangeSpec := { name := "configBack", fn := fun _ => fun
  | [d1, d2, d3, d4] => { results := [.lit (.bool false)], args := [d1, d2, d3, d4] }
  | _ => none }
def ConfigBackWrongFalsely : Prop := configBackRow.holds Tryz.pinned (OpenSpec.ofChange configBackWrong)

/-- 'gatepostlaw18.FeedRow': WHATEVER THE INPUT: true; the input reads as it did. -/
def feedRowSpec : ChangeSpec := { name := "feedRow", fn := fun _ => fun
  | [d1, d2, d3] => { results := [.lit (.bool true)], args := [d1, d2, d3] }
  | _ => none }
def feedRowRow : OpenClaim := { program := "ytmahnnnccohccaagreat", sum := "d98548501bfdf969e93278859c64b2b7e5fa8464189d6e4954ca540124ebd60e", func := "gatepost/gatepostlaw18.FeedRow", spec := "feedRow", unfollowed := true, recurses := true, apart := false }
def FeedRowSaid : Prop := feedRowRow.holds Tryz.pinned (OpenSpec.ofChange feedRowSpec)

/-- ITS FALSE NEIGHBOUR: 'it returns false'. Refute it at one input. -/
def feedRowWrong : ChangeSpec := { name := "feedRow", fn := fun _ => fun
  | [d1, d2, d3] => { results := [.lit (.bool false)], args := [d1, d2, d3] }
  | _ => none }
def FeedRowWrongFalsely : Prop := feedRowRow.holds Tryz.pinned (OpenSpec.ofChange feedRowWrong)

/-- 'gatepostlaw18.FeedEnds': WHATEVER THE INPUT: true; the input reads as it did. -/
def feedEndsSpec : ChangeSpec := { name := "feedEnds", fn := fun _ => fun
  | [d1, d2, d3, d4] => { results := [.lit (.bool true)], args := [d1, d2, d3, d4] }
  | _ => none }
def feedEndsRow : OpenClaim := { program := "ytmahnnnccohccaagreat", sum := "d98548501bfdf969e93278859c64b2b7e5fa8464189d6e4954ca540124ebd60e", func := "gatepost/gatepostlaw18.FeedEnds", spec := "feedEnds", unfollowed := true, recurses := true, apart := false }
def FeedEndsSaid : Prop := feedEndsRow.holds Tryz.pinned (OpenSpec.ofChange feedEndsSpec)

/-- ITS FALSE NEIGHBOUR: 'it returns false'. Refute it at one input. -/
def feedEndsWrong : ChangeSpec := { name := "feedEnds", fn := fun _ => fun
  | [d1, d2, d3, d4] => { results := [.lit (.bool false)], args := [d1, d2, d3, d4] }
  | _ => none }
def FeedEndsWrongFalsely : Prop := feedEndsRow.holds Tryz.pinned (OpenSpec.ofChange feedEndsWrong)

/-- 'gatepostlaw17.ViewBack': WHATEVER THE INPUT: true; the input reads as it did. -/
def viewBackSpec : ChangeSpec := { name := "viewBack", fn := fun _ => fun
  | [d1, d2] => { results := [.lit (.bool true)], args := [d1, d2] }
  | _ => none }
def viewBackRow : OpenClaim := { program := "ytmahnnnccohccaagreat", sum := "d98548501bfdf969e93278859c64b2b7e5fa8464189d6e4954ca540124ebd60e", func := "gatepost/gatepostlaw17.ViewBack", spec := "viewBack", unfollowed := true, recurses := true, apart := false }
def ViewBackSaid : Prop := viewBackRow.holds Tryz.pinned (OpenSpec.ofChange viewBackSpec)

/-- ITS FALSE NEIGHBOUR: 'it returns false'. Refute it at one input. -/
def viewBackWrong : ChangeSpec := { name := "viewBack", fn := fun _ => fun
  | [d1, d2] => { results := [.lit (.bool false)], args := [d1, d2] }
  | _ => none }
def ViewBackWrongFalsely : Prop := viewBackRow.holds Tryz.pinned (OpenSpec.ofChange viewBackWrong)

/-- 'gatepostlaw19.IndexTrue': WHATEVER THE INPUT: true; the input reads as it did. -/
def indexTrueSpec : ChangeSpec := { name := "indexTrue", fn := fun _ => fun
  | [d1, d2, d3] => { results := [.lit (.bool true)], args := [d1, d2, d3] }
  | _ => none }
def indexTrueRow : OpenClaim := { program := "ytmahnnnccohccaagreat", sum := "d98548501bfdf969e93278859c64b2b7e5fa8464189d6e4954ca540124ebd60e", func := "gatepost/gatepostlaw19.IndexTrue", spec := "indexTrue", inPlace := ["slices.overlaps[uint32]"], unfollowed := true, recurses := true, apart := false }
def IndexTrueSaid : Prop := indexTrueRow.holds Tryz.pinned (OpenSpec.ofChange indexTrueSpec)

/-- ITS FALSE NEIGHBOUR: 'it returns false'. Refute it at one input. -/
def indexTrueWrong : ChangeSpec := { name := "indexTrue", fn := fun _ => fun
  | [d1, d2, d3] => { results := [.lit (.bool false)], args := [d1, d2, d3] }
  | _ => none }
def IndexTrueWrongFalsely : Prop := indexTrueRow.holds Tryz.pinned (OpenSpec.ofChange indexTrueWrong)

/- THE SECOND FORM. 'bulk': how many values and letters a reading holds, each counted each time it is reached (what is shared counts as often as it is met; a slice's spare places count too). A statement '..UptoSaid' is the law's where the arguments, and the package variables that the reading takes, are together of bulk at most 1048576: NARROWER than '..Said'. Prove '..Said' where nothing that the law and all that it calls make is longer than what came in: it says more and counts as full. Else prove '..UptoSaid'. A law counts once. -/
mutual
def uptoBulk {H : Type} : DataW H → Nat
  | .lit (.string bytes) => bytes.length + 1
  | .lit _ => 1
  | .nil => 1
  | .ptr d => uptoBulk d + 1
  | .slice elems spare => uptoBulkAll elems + uptoBulkAll spare + 1
  | .agg parts => uptoBulkAll parts + 1
  | .iface _ d => uptoBulk d + 1
  | .map entries => uptoBulkEntries entries + 1
  | .held _ => 1
def uptoBulkAll {H : Type} : List (DataW H) → Nat
  | [] => 0
  | d :: r => uptoBulk d + uptoBulkAll r
def uptoBulkEntries {H : Type} : List (Lit × DataW H) → Nat
  | [] => 0
  | x :: r => uptoBulkEntry x + uptoBulkEntries r
def uptoBulkEntry {H : Type} : Lit × DataW H → Nat
  | (.string bytes, d) => bytes.length + uptoBulk d + 1
  | (_, d) => uptoBulk d + 1
 end
def uptoSmall : (H : Type) → List (DataW H) → Bool := fun _ ds => decide (uptoBulkAll ds ≤ 1048576)
def OpenSpec.upto (s : _root_.Go.ChangeSpec) : _root_.Go.OpenSpec := { _root_.Go.OpenSpec.ofChange s with cond := some uptoSmall }

/-- 'gatepostlaw19.IndexTakes', WHERE WHAT IT READS IS OF BULK AT MOST 1048576: true; the input reads as it did. -/
def indexTakesUptoRow : OpenClaim := { program := "ytmahnnnccohccaagreat", sum := "d98548501bfdf969e93278859c64b2b7e5fa8464189d6e4954ca540124ebd60e", func := "gatepost/gatepostlaw19.IndexTakes", spec := "indexTakes", inPlace := ["slices.overlaps[uint32]"], unfollowed := true, recurses := true, apart := false, narrowed := true }
def IndexTakesUptoSaid : Prop := indexTakesUptoRow.holds Tryz.pinned (OpenSpec.upto indexTakesSpec)

/-- 'gatepostlaw16.ConfigApplies', WHERE WHAT IT READS IS OF BULK AT MOST 1048576: true; the input reads as it did. -/
def configAppliesUptoRow : OpenClaim := { program := "ytmahnnnccohccaagreat", sum := "d98548501bfdf969e93278859c64b2b7e5fa8464189d6e4954ca540124ebd60e", func := "gatepost/gatepostlaw16.ConfigApplies", spec := "configApplies", unfollowed := true, recurses := true, apart := false, narrowed := true }
def ConfigAppliesUptoSaid : Prop := configAppliesUptoRow.holds Tryz.pinned (OpenSpec.upto configAppliesSpec)

/-- 'gatepostlaw19.IndexAsks', WHERE WHAT IT READS IS OF BULK AT MOST 1048576: true; the input reads as it did. -/
def indexAsksUptoRow : OpenClaim := { program := "ytmahnnnccohccaagreat", sum := "d98548501bfdf969e93278859c64b2b7e5fa8464189d6e4954ca540124ebd60e", func := "gatepost/gatepostlaw19.IndexAsks", spec := "indexAsks", inPlace := ["slices.overlaps[uint32]"], unfollowed := true, recurses := true, apart := false, narrowed := true }
def IndexAsksUptoSaid : Prop := indexAsksUptoRow.holds Tryz.pinned (OpenSpec.upto indexAsksSpec)

/-- 'gatepostlaw17.ViewOf', WHERE WHAT IT READS IS OF BULK AT MOST 1048576: true; the input reads as it did. -/
def viewOfUptoRow : OpenClaim := { program := "ytmahnnnccohccaagreat", sum := "d98548501bfdf969e93278859c64b2b7e5fa8464189d6e4954ca540124ebd60e", func := "gatepost/gatepostlaw17.ViewOf", spec := "viewOf", unfollowed := true, recurses := true, apart := false, narrowed := true }
def ViewOfUptoSaid : Prop := viewOfUptoRow.holds Tryz.pinned (OpenSpec.upto viewOfSpec)

/-- 'gatepostlaw17.ViewChain', WHERE WHAT IT READS IS OF BULK AT MOST 1048576: true; the input reads as it did. -/
def viewChainUptoRow : OpenClaim := { program := "ytmahnnnccohccaagreat", sum := "d98548501bfdf969e93278859c64b2b7e5fa8464189d6e4954ca540124ebd60e", func := "gatepost/gatepostlaw17.ViewChain", spec := "viewChain", unfollowed := true, recurses := true, apart := false, narrowed := true }
def ViewChainUptoSaid : Prop := viewChainUptoRow.holds Tryz.pinned (OpenSpec.upto viewChainSpec)

/-- 'gatepostlaw17.ViewDiffs', WHERE WHAT IT READS IS OF BULK AT MOST 1048576: true; the input reads as it did. -/
def viewDiffsUptoRow : OpenClaim := { program := "ytmahnnnccohccaagreat", sum := "d98548501bfdf969e93278859c64b2b7e5fa8464189d6e4954ca540124ebd60e", func := "gatepost/gatepostlaw17.ViewDiffs", spec := "viewDiffs", unfollowed := true, recurses := true, apart := false, narrowed := true }
def ViewDiffsUptoSaid : Prop := viewDiffsUptoRow.holds Tryz.pinned (OpenSpec.upto viewDiffsSpec)

/-- 'gatepostlaw18.FeedAside', WHERE WHAT IT READS IS OF BULK AT MOST 1048576: true; the input reads as it did. -/
def feedAsideUptoRow : OpenClaim := { program := "ytmahnnnccohccaagreat", sum := "d98548501bfdf969e93278859c64b2b7e5fa8464189d6e4954ca540124ebd60e", func := "gatepost/gatepostlaw18.FeedAside", spec := "feedAside", unfollowed := true, recurses := true, apart := false, narrowed := true }
def FeedAsideUptoSaid : Prop := feedAsideUptoRow.holds Tryz.pinned (OpenSpec.upto feedAsideSpec)

/-- 'gatepostlaw18.FeedDoes', WHERE WHAT IT READS IS OF BULK AT MOST 1048576: true; the input reads as it did. -/
def feedDoesUptoRow : OpenClaim := { program := "ytmahnnnccohccaagreat", sum := "d98548501bfdf969e93278859c64b2b7e5fa8464189d6e4954ca540124ebd60e", func := "gatepost/gatepostlaw18.FeedDoes", spec := "feedDoes", unfollowed := true, recurses := true, apart := false, narrowed := true }
def FeedDoesUptoSaid : Prop := feedDoesUptoRow.holds Tryz.pinned (OpenSpec.upto feedDoesSpec)

/-- 'gatepostlaw16.ConfigBytes', WHERE WHAT IT READS IS OF BULK AT MOST 1048576: true; the input reads as it did. -/
def configBytesUptoRow : OpenClaim := { program := "ytmahnnnccohccaagreat", sum := "d98548501bfdf969e93278859c64b2b7e5fa8464189d6e4954ca540124ebd60e", func := "gatepost/gatepostlaw16.ConfigBytes", spec := "configBytes", unfollowed := true, recurses := true, apart := false, narrowed := true }
def ConfigBytesUptoSaid : Prop := configBytesUptoRow.holds Tryz.pinned (OpenSpec.upto configBytesSpec)

/-- 'gatepostlaw16.ConfigBack', WHERE WHAT IT READS IS OF BULK AT MOST 1048576: true; the input reads as it did. -/
def configBackUptoRow : OpenClaim := { program := "ytmahnnnccohccaagreat", sum := "d98548501bfdf969e93278859c64b2b7e5fa8464189d6e4954ca540124ebd60e", func := "gatepost/gatepostlaw16.ConfigBack", spec := "configBack", unfollowed := true, recurses := true, apart := false, narrowed := true }
def ConfigBackUptoSaid : Prop := configBackUptoRow.holds Tryz.pinned (OpenSpec.upto configBackSpec)

/-- 'gatepostlaw18.FeedRow', WHERE WHAT IT READS IS OF BULK AT MOST 1048576: true; the input reads as it did. -/
def feedRowUptoRow : OpenClaim := { program := "ytmahnnnccohccaagreat", sum := "d98548501bfdf969e93278859c64b2b7e5fa8464189d6e4954ca540124ebd60e", func := "gatepost/gatepostlaw18.FeedRow", spec := "feedRow", unfollowed := true, recurses := true, apart := false, narrowed := true }
def FeedRowUptoSaid : Prop := feedRowUptoRow.holds Tryz.pinned (OpenSpec.upto feedRowSpec)

/-- 'gatepostlaw18.FeedEnds', WHERE WHAT IT READS IS OF BULK AT MOST 1048576: true; the input reads as it did. -/
def feedEndsUptoRow : OpenClaim := { program := "ytmahnnnccohccaagreat", sum := "d98548501bfdf969e93278859c64b2b7e5fa8464189d6e4954ca540124ebd60e", func := "gatepost/gatepostlaw18.FeedEnds", spec := "feedEnds", unfollowed := true, recurses := true, apart := false, narrowed := true }
def FeedEndsUptoSaid : Prop := feedEndsUptoRow.holds Tryz.pinned (OpenSpec.upto feedEndsSpec)

/-- 'gatepostlaw17.ViewBack', WHERE WHAT IT READS IS OF BULK AT MOST 1048576: true; the input reads as it did. -/
def viewBackUptoRow : OpenClaim := { program := "ytmahnnnccohccaagreat", sum := "d98548501bfdf969e93278859c64b2b7e5fa8464189d6e4954ca540124ebd60e", func := "gatepost/gatepostlaw17.ViewBack", spec := "viewBack", unfollowed := true, recurses := true, apart := false, narrowed := true }
def ViewBackUptoSaid : Prop := viewBackUptoRow.holds Tryz.pinned (OpenSpec.upto viewBackSpec)

/-- 'gatepostlaw19.IndexTrue', WHERE WHAT IT READS IS OF BULK AT MOST 1048576: true; the input reads as it did. -/
def indexTrueUptoRow : OpenClaim := { program := "ytmahnnnccohccaagreat", sum := "d98548501bfdf969e93278859c64b2b7e5fa8464189d6e4954ca540124ebd60e", func := "gatepost/gatepostlaw19.IndexTrue", spec := "indexTrue", inPlace := ["slices.overlaps[uint32]"], unfollowed := true, recurses := true, apart := false, narrowed := true }
def IndexTrueUptoSaid : Prop := indexTrueUptoRow.holds Tryz.pinned (OpenSpec.upto indexTrueSpec)

end Rows
end Go.Proofs.YtmahnnnccohccaaGreat
