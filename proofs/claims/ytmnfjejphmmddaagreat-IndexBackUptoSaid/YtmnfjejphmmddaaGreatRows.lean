/-
  No cell of these rows narrows 'for every input' (looked for: loops, veiled, ifaces, maps, wideKeys, modest, calm, conditions, laid).
  DERIVED. THE GIVEN ROWS OF THIS SEAT. 12 by the template 'for every input the law returns true; each argument reads behind the call as it read before'; 0 by the template 'total and deterministic' (their statements: YtmnfjejphmmddaaGreatTotals.lean).
  GIVEN WITH THE SEED: the statements are not yours to turn. If you find one false, say at which input.
  Laid BY PROGRAM, IN A SANDBOX (cutbox-rows.mjs): the forced cells as the released guide's own fill.sh prints them over the translation 2423f8b13e0193e0… (all of the seat's roots in one cut). By AI agents, Wed Nov 11 2026. No macro, syntax, notation, axiom, sorry.
-/
import Derived.Test.YtmnfjejphmmddaaGreatChecked
import GoSem.Claim
import GoSem.ClaimJoined
import GoSem.ClaimMapViews
import Derived.JoinedTies
import Derived.KernelRfl
namespace Go.Proofs.YtmnfjejphmmddaaGreat
/- THE CELL 'sum', in the pinned program and in every row, IS THE sha256 OF THE DUMP (.gsa) THAT YtmnfjejphmmddaaGreatProg.lean LOADS. Nothing in Lean hashes anything: it is a label: what it is worth is what the hold of that sum in a sandbox is worth. -/
noncomputable def Tryz.pinned : Pinned := { name := "ytmnfjejphmmddaagreat", sum := "2423f8b13e0193e06a8f63bba3277f787075a10ac0f63f31606902968d54cd10", checked := Tryz.checked }
namespace Rows
def none {H : Type} : Left H := { results := [], args := [] }

/-- 'gatepostlaw19.IndexBack': WHATEVER THE INPUT: true; the input reads as it did. -/
def indexBackSpec : ChangeSpec := { name := "indexBack", fn := fun _ => fun
  | [d1, d2, d3] => { results := [.lit (.bool true)], args := [d1, d2, d3] }
  | _ => none }
def indexBackRow : OpenClaim := { program := "ytmnfjejphmmddaagreat", sum := "2423f8b13e0193e06a8f63bba3277f787075a10ac0f63f31606902968d54cd10", func := "gatepost/gatepostlaw19.IndexBack", spec := "indexBack", inPlace := ["slices.overlaps[uint32]"], unfollowed := true, recurses := true, apart := false }
def IndexBackSaid : Prop := indexBackRow.holds Tryz.pinned (OpenSpec.ofChange indexBackSpec)

/-- ITS FALSE NEIGHBOUR: 'it returns false'. Refute it at one input. -/
def indexBackWrong : ChangeSpec := { name := "indexBack", fn := fun _ => fun
  | [d1, d2, d3] => { results := [.lit (.bool false)], args := [d1, d2, d3] }
  | _ => none }
def IndexBackWrongFalsely : Prop := indexBackRow.holds Tryz.pinned (OpenSpec.ofChange indexBackWrong)

/-- 'gatepostlaw19.IndexTakes': WHATEVER THE INPUT: true; the input reads as it did. -/
def indexTakesSpec : ChangeSpec := { name := "indexTakes", fn := fun _ => fun
  | [d1, d2, d3, d4] => { results := [.lit (.bool true)], args := [d1, d2, d3, d4] }
  | _ => none }
def indexTakesRow : OpenClaim := { program := "ytmnfjejphmmddaagreat", sum := "2423f8b13e0193e06a8f63bba3277f787075a10ac0f63f31606902968d54cd10", func := "gatepost/gatepostlaw19.IndexTakes", spec := "indexTakes", inPlace := ["slices.overlaps[uint32]"], unfollowed := true, recurses := true, apart := false }
def IndexTakesSaid : Prop := indexTakesRow.holds Tryz.pinned (OpenSpec.ofChange indexTakesSpec)

/-- ITS FALSE NEIGHBOUR: 'it returns false'. Refute it at one input. -/
def indexTakesWrong : ChangeSpec := { name := "indexTakes", fn := fun _ => fun
  | [d1, d2, d3, d4] => { results := [.lit (.bool false)], args := [d1, d2, d3, d4] }
  | _ => none }
def IndexTakesWrongFalsely : Prop := indexTakesRow.holds Tryz.pinned (OpenSpec.ofChange indexTakesWrong)

/-- 'gatepostlaw16.ConfigApplies': WHATEVER THE INPUT: true; the input reads as it did. -/
def configAppliesSpec : ChangeSpec := { name := "configApplies", fn := fun _ => fun
  | [d1, d2] => { results := [.lit (.bool true)], args := [d1, d2] }
  | _ => none }
def configAppliesRow : OpenClaim := { program := "ytmnfjejphmmddaagreat", sum := "2423f8b13e0193e06a8f63bba3277f787075a10ac0f63f31606902968d54cd10", func := "gatepost/gatepostlaw16.ConfigApplies", spec := "configApplies", unfollowed := true, recurses := true, apart := false }
def ConfigAppliesSaid : Prop := configAppliesRow.holds Tryz.pinned (OpenSpec.ofChange configAppliesSpec)

/-- ITS FALSE NEIGHBOUR: 'it returns false'. Refute it at one input. -/
def configAppliesWrong : ChangeSpec := { name := "configApplies", fn := fun _ => fun
  | [d1, d2] => { results := [.lit (.bool false)], args := [d1, d2] }
  | _ => none }
def ConfigAppliesWrongFalsely : Prop := configAppliesRow.holds Tryz.pinned (OpenSpec.ofChange configAppliesWrong)

/-- 'gatepostlaw16.ConfigStays': WHATEVER THE INPUT: true; the input reads as it did. -/
def configStaysSpec : ChangeSpec := { name := "configStays", fn := fun _ => fun
  | [d1, d2, d3] => { results := [.lit (.bool true)], args := [d1, d2, d3] }
  | _ => none }
def configStaysRow : OpenClaim := { program := "ytmnfjejphmmddaagreat", sum := "2423f8b13e0193e06a8f63bba3277f787075a10ac0f63f31606902968d54cd10", func := "gatepost/gatepostlaw16.ConfigStays", spec := "configStays", unfollowed := true, recurses := true, apart := false }
def ConfigStaysSaid : Prop := configStaysRow.holds Tryz.pinned (OpenSpec.ofChange configStaysSpec)

/-- ITS FALSE NEIGHBOUR: 'it returns false'. Refute it at one input. -/
def configStaysWrong : ChangeSpec := { name := "configStays", fn := fun _ => fun
  | [d1, d2, d3] => { results := [.lit (.bool false)], args := [d1, d2, d3] }
  | _ => none }
def ConfigStaysWrongFalsely : Prop := configStaysRow.holds Tryz.pinned (OpenSpec.ofChange configStaysWrong)

/-- 'gatepostlaw16.ConfigFinds': WHATEVER THE INPUT: true; the input reads as it did. -/
def configFindsSpec : ChangeSpec := { name := "configFinds", fn := fun _ => fun
  | [d] => { results := [.lit (.bool true)], args := [d] }
  | _ => none }
def configFindsRow : OpenClaim := { program := "ytmnfjejphmmddaagreat", sum := "2423f8b13e0193e06a8f63bba3277f787075a10ac0f63f31606902968d54cd10", func := "gatepost/gatepostlaw16.ConfigFinds", spec := "configFinds", unfollowed := true, recurses := true, apart := false }
def ConfigFindsSaid : Prop := configFindsRow.holds Tryz.pinned (OpenSpec.ofChange configFindsSpec)

/-- ITS FALSE NEIGHBOUR: 'it returns false'. Refute it at one input. -/
def configFindsWrong : ChangeSpec := { name := "configFinds", fn := fun _ => fun
  | [d] => { results := [.lit (.bool false)], args := [d] }
  | _ => none }
def ConfigFindsWrongFalsely : Prop := configFindsRow.holds Tryz.pinned (OpenSpec.ofChange configFindsWrong)

/-- 'gatepostlaw16.ConfigTells': WHATEVER THE INPUT: true; the input reads as it did. -/
def configTellsSpec : ChangeSpec := { name := "configTells", fn := fun _ => fun
  | [d1, d2, d3, d4, d5] => { results := [.lit (.bool true)], args := [d1, d2, d3, d4, d5] }
  | _ => none }
def configTellsRow : OpenClaim := { program := "ytmnfjejphmmddaagreat", sum := "2423f8b13e0193e06a8f63bba3277f787075a10ac0f63f31606902968d54cd10", func := "gatepost/gatepostlaw16.ConfigTells", spec := "configTells", unfollowed := true, recurses := true, apart := false }
def ConfigTellsSaid : Prop := configTellsRow.holds Tryz.pinned (OpenSpec.ofChange configTellsSpec)

/-- ITS FALSE NEIGHBOUR: 'it returns false'. Refute it at one input. -/
def configTellsWrong : ChangeSpec := { name := "configTells", fn := fun _ => fun
  | [d1, d2, d3, d4, d5] => { results := [.lit (.bool false)], args := [d1, d2, d3, d4, d5] }
  | _ => none }
def ConfigTellsWrongFalsely : Prop := configTellsRow.holds Tryz.pinned (OpenSpec.ofChange configTellsWrong)

/-- 'gatepostlaw19.IndexAsks': WHATEVER THE INPUT: true; the input reads as it did. -/
def indexAsksSpec : ChangeSpec := { name := "indexAsks", fn := fun _ => fun
  | [d1, d2, d3, d4, d5, d6, d7] => { results := [.lit (.bool true)], args := [d1, d2, d3, d4, d5, d6, d7] }
  | _ => none }
def indexAsksRow : OpenClaim := { program := "ytmnfjejphmmddaagreat", sum := "2423f8b13e0193e06a8f63bba3277f787075a10ac0f63f31606902968d54cd10", func := "gatepost/gatepostlaw19.IndexAsks", spec := "indexAsks", inPlace := ["slices.overlaps[uint32]"], unfollowed := true, recurses := true, apart := false }
def IndexAsksSaid : Prop := indexAsksRow.holds Tryz.pinned (OpenSpec.ofChange indexAsksSpec)

/-- ITS FALSE NEIGHBOUR: 'it returns false'. Refute it at one input. -/
def indexAsksWrong : ChangeSpec := { name := "indexAsks", fn := fun _ => fun
  | [d1, d2, d3, d4, d5, d6, d7] => { results := [.lit (.bool false)], args := [d1, d2, d3, d4, d5, d6, d7] }
  | _ => none }
def IndexAsksWrongFalsely : Prop := indexAsksRow.holds Tryz.pinned (OpenSpec.ofChange indexAsksWrong)

/-- 'gatepostlaw16.ConfigAgain': WHATEVER THE INPUT: true; the input reads as it did. -/
def configAgainSpec : ChangeSpec := { name := "configAgain", fn := fun _ => fun
  | [d1, d2] => { results := [.lit (.bool true)], args := [d1, d2] }
  | _ => none }
def configAgainRow : OpenClaim := { program := "ytmnfjejphmmddaagreat", sum := "2423f8b13e0193e06a8f63bba3277f787075a10ac0f63f31606902968d54cd10", func := "gatepost/gatepostlaw16.ConfigAgain", spec := "configAgain", unfollowed := true, recurses := true, apart := false }
def ConfigAgainSaid : Prop := configAgainRow.holds Tryz.pinned (OpenSpec.ofChange configAgainSpec)

/-- ITS FALSE NEIGHBOUR: 'it returns false'. Refute it at one input. -/
def configAgainWrong : ChangeSpec := { name := "configAgain", fn := fun _ => fun
  | [d1, d2] => { results := [.lit (.bool false)], args := [d1, d2] }
  | _ => none }
def ConfigAgainWrongFalsely : Prop := configAgainRow.holds Tryz.pinned (OpenSpec.ofChange configAgainWrong)

/-- 'gatepostlaw17.ViewOf': WHATEVER THE INPUT: true; the input reads as it did. -/
def viewOfSpec : ChangeSpec := { name := "viewOf", fn := fun _ => fun
  | [d1, d2] => { results := [.lit (.bool true)], args := [d1, d2] }
  | _ => none }
def viewOfRow : OpenClaim := { program := "ytmnfjejphmmddaagreat", sum := "2423f8b13e0193e06a8f63bba3277f787075a10ac0f63f31606902968d54cd10", func := "gatepost/gatepostlaw17.ViewOf", spec := "viewOf", unfollowed := true, recurses := true, apart := false }
def ViewOfSaid : Prop := viewOfRow.holds Tryz.pinned (OpenSpec.ofChange viewOfSpec)

/-- ITS FALSE NEIGHBOUR: 'it returns false'. Refute it at one input. -/
def viewOfWrong : ChangeSpec := { name := "viewOf", fn := fun _ => fun
  | [d1, d2] => { results := [.lit (.bool false)], args := [d1, d2] }
  | _ => none }
def ViewOfWrongFalsely : Prop := viewOfRow.holds Tryz.pinned (OpenSpec.ofChange viewOfWrong)

/-- 'gatepostlaw17.ViewFinds': WHATEVER THE INPUT: true; the input reads as it did. -/
def viewFindsSpec : ChangeSpec := { name := "viewFinds", fn := fun _ => fun
  | [d1, d2, d3] => { results := [.lit (.bool true)], args := [d1, d2, d3] }
  | _ => none }
def viewFindsRow : OpenClaim := { program := "ytmnfjejphmmddaagreat", sum := "2423f8b13e0193e06a8f63bba3277f787075a10ac0f63f31606902968d54cd10", func := "gatepost/gatepostlaw17.ViewFinds", spec := "viewFinds", unfollowed := true, recurses := true, apart := false }
def ViewFindsSaid : Prop := viewFindsRow.holds Tryz.pinned (OpenSpec.ofChange viewFindsSpec)

/-- ITS FALSE NEIGHBOUR: 'it returns false'. Refute it at one input. -/
def viewFindsWrong : ChangeSpec := { name := "viewFinds", fn := fun _ => fun
  | [d1, d2, d3] => { results := [.lit (.bool false)], args := [d1, d2, d3] }
  | _ => none }
def ViewFindsWrongFalsely : Prop := viewFindsRow.holds Tryz.pinned (OpenSpec.ofChange viewFindsWrong)

/-- 'gatepostlaw17.ViewMore': WHATEVER THE INPUT: true; the input reads as it did. -/
def viewMoreSpec : ChangeSpec := { name := "viewMore", fn := fun _ => fun
  | [d1, d2, d3, d4] => { results := [.lit (.bool true)], args := [d1, d2, d3, d4] }
  | _ => none }
def viewMoreRow : OpenClaim := { program := "ytmnfjejphmmddaagreat", sum := "2423f8b13e0193e06a8f63bba3277f787075a10ac0f63f31606902968d54cd10", func := "gatepost/gatepostlaw17.ViewMore", spec := "viewMore", unfollowed := true, recurses := true, apart := false }
def ViewMoreSaid : Prop := viewMoreRow.holds Tryz.pinned (OpenSpec.ofChange viewMoreSpec)

/-- ITS FALSE NEIGHBOUR: 'it returns false'. Refute it at one input. -/
def viewMoreWrong : ChangeSpec := { name := "viewMore", fn := fun _ => fun
  | [d1, d2, d3, d4] => { results := [.lit (.bool false)], args := [d1, d2, d3, d4] }
  | _ => none }
def ViewMoreWrongFalsely : Prop := viewMoreRow.holds Tryz.pinned (OpenSpec.ofChange viewMoreWrong)

/-- 'gatepostlaw17.ViewTrue': WHATEVER THE INPUT: true; the input reads as it did. -/
def viewTrueSpec : ChangeSpec := { name := "viewTrue", fn := fun _ => fun
  | [d1, d2] => { results := [.lit (.bool true)], args := [d1, d2] }
  | _ => none }
def viewTrueRow : OpenClaim := { program := "ytmnfjejphmmddaagreat", sum := "2423f8b13e0193e06a8f63bba3277f787075a10ac0f63f31606902968d54cd10", func := "gatepost/gatepostlaw17.ViewTrue", spec := "viewTrue", unfollowed := true, recurses := true, apart := false }
def ViewTrueSaid : Prop := viewTrueRow.holds Tryz.pinned (OpenSpec.ofChange viewTrueSpec)

/-- ITS FALSE NEIGHBOUR: 'it returns false'. Refute it at one input. -/
def viewTrueWrong : ChangeSpec := { name := "viewTrue", fn := fun _ => fun
  | [d1, d2] => { results := [.lit (.bool false)], args := [d1, d2] }
  | _ => none }
def ViewTrueWrongFalsely : Prop := viewTrueRow.holds Tryz.pinned (OpenSpec.ofChange viewTrueWrong)

/- THE SECOND FORM. 'bulk': how many values and letters a reading holds, each counted each time it is reached (what is shared counts as often as it is met; a slice's spare places count too). A statement '..UptoSaid' is the law's where the arguments, and the package variables that the reading takes, are together of bulk at most 1048576: NARROWER than '..Said'. Prove '..Said' where nothing that the law and all that it calls make is longer than what came in: it says more and counts as full. Else prove '..UptoSaid'. A law counts once. -/
mutual
def uptoBulk {H : Type} : DataW H → Nat
  | .lit (.string bytes) => bytes.length + 1
  | .lit _ => 1
  | .nil => 1
  | .ptr d => uptoBulk d + 1
  | .slice elems spare => uptoBulkAll elems + uptoBulkAll spare + 1
  | .agg parts => uptoBulkAll parts + 1
  | .iface _ d => uptoBulk d + 1
  | .map entries => uptoBulkEntries entries + 1
  | .held _ => 1
def uptoBulkAll {H : Type} : List (DataW H) → Nat
  | [] => 0
  | d :: r => uptoBulk d + uptoBulkAll r
def uptoBulkEntries {H : Type} : List (Lit × DataW H) → Nat
  | [] => 0
  | x :: r => uptoBulkEntry x + uptoBulkEntries r
def uptoBulkEntry {H : Type} : Lit × DataW H → Nat
  | (.string bytes, d) => bytes.length + uptoBulk d + 1
  | (_, d) => uptoBulk d + 1
 end
def uptoSmall : (H : Type) → List (DataW H) → Bool := fun _ ds => decide (uptoBulkAll ds ≤ 1048576)
def OpenSpec.upto (s : _root_.Go.ChangeSpec) : _root_.Go.OpenSpec := { _root_.Go.OpenSpec.ofChange s with cond := some uptoSmall }

/-- 'gatepostlaw19.IndexBack', WHERE WHAT IT READS IS OF BULK AT MOST 1048576: true; the input reads as it did. -/
def indexBackUptoRow : OpenClaim := { program := "ytmnfjejphmmddaagreat", sum := "2423f8b13e0193e06a8f63bba3277f787075a10ac0f63f31606902968d54cd10", func := "gatepost/gatepostlaw19.IndexBack", spec := "indexBack", inPlace := ["slices.overlaps[uint32]"], unfollowed := true, recurses := true, apart := false, narrowed := true }
def IndexBackUptoSaid : Prop := indexBackUptoRow.holds Tryz.pinned (OpenSpec.upto indexBackSpec)

/-- 'gatepostlaw19.IndexTakes', WHERE WHAT IT READS IS OF BULK AT MOST 1048576: true; the input reads as it did. -/
def indexTakesUptoRow : OpenClaim := { program := "ytmnfjejphmmddaagreat", sum := "2423f8b13e0193e06a8f63bba3277f787075a10ac0f63f31606902968d54cd10", func := "gatepost/gatepostlaw19.IndexTakes", spec := "indexTakes", inPlace := ["slices.overlaps[uint32]"], unfollowed := true, recurses := true, apart := false, narrowed := true }
def IndexTakesUptoSaid : Prop := indexTakesUptoRow.holds Tryz.pinned (OpenSpec.upto indexTakesSpec)

/-- 'gatepostlaw16.ConfigApplies', WHERE WHAT IT READS IS OF BULK AT MOST 1048576: true; the input reads as it did. -/
def configAppliesUptoRow : OpenClaim := { program := "ytmnfjejphmmddaagreat", sum := "2423f8b13e0193e06a8f63bba3277f787075a10ac0f63f31606902968d54cd10", func := "gatepost/gatepostlaw16.ConfigApplies", spec := "configApplies", unfollowed := true, recurses := true, apart := false, narrowed := true }
def ConfigAppliesUptoSaid : Prop := configAppliesUptoRow.holds Tryz.pinned (OpenSpec.upto configAppliesSpec)

/-- 'gatepostlaw16.ConfigStays', WHERE WHAT IT READS IS OF BULK AT MOST 1048576: true; the input reads as it did. -/
def configStaysUptoRow : OpenClaim := { program := "ytmnfjejphmmddaagreat", sum := "2423f8b13e0193e06a8f63bba3277f787075a10ac0f63f31606902968d54cd10", func := "gatepost/gatepostlaw16.ConfigStays", spec := "configStays", unfollowed := true, recurses := true, apart := false, narrowed := true }
def ConfigStaysUptoSaid : Prop := configStaysUptoRow.holds Tryz.pinned (OpenSpec.upto configStaysSpec)

/-- 'gatepostlaw16.ConfigFinds', WHERE WHAT IT READS IS OF BULK AT MOST 1048576: true; the input reads as it did. -/
def configFindsUptoRow : OpenClaim := { program := "ytmnfjejphmmddaagreat", sum := "2423f8b13e0193e06a8f63bba3277f787075a10ac0f63f31606902968d54cd10", func := "gatepost/gatepostlaw16.ConfigFinds", spec := "configFinds", unfollowed := true, recurses := true, apart := false, narrowed := true }
def ConfigFindsUptoSaid : Prop := configFindsUptoRow.holds Tryz.pinned (OpenSpec.upto configFindsSpec)

/-- 'gatepostlaw16.ConfigTells', WHERE WHAT IT READS IS OF BULK AT MOST 1048576: true; the input reads as it did. -/
def configTellsUptoRow : OpenClaim := { program := "ytmnfjejphmmddaagreat", sum := "2423f8b13e0193e06a8f63bba3277f787075a10ac0f63f31606902968d54cd10", func := "gatepost/gatepostlaw16.ConfigTells", spec := "configTells", unfollowed := true, recurses := true, apart := false, narrowed := true }
def ConfigTellsUptoSaid : Prop := configTellsUptoRow.holds Tryz.pinned (OpenSpec.upto configTellsSpec)

/-- 'gatepostlaw19.IndexAsks', WHERE WHAT IT READS IS OF BULK AT MOST 1048576: true; the input reads as it did. -/
def indexAsksUptoRow : OpenClaim := { program := "ytmnfjejphmmddaagreat", sum := "2423f8b13e0193e06a8f63bba3277f787075a10ac0f63f31606902968d54cd10", func := "gatepost/gatepostlaw19.IndexAsks", spec := "indexAsks", inPlace := ["slices.overlaps[uint32]"], unfollowed := true, recurses := true, apart := false, narrowed := true }
def IndexAsksUptoSaid : Prop := indexAsksUptoRow.holds Tryz.pinned (OpenSpec.upto indexAsksSpec)

/-- 'gatepostlaw16.ConfigAgain', WHERE WHAT IT READS IS OF BULK AT MOST 1048576: true; the input reads as it did. -/
def configAgainUptoRow : OpenClaim := { program := "ytmnfjejphmmddaagreat", sum := "2423f8b13e0193e06a8f63bba3277f787075a10ac0f63f31606902968d54cd10", func := "gatepost/gatepostlaw16.ConfigAgain", spec := "configAgain", unfollowed := true, recurses := true, apart := false, narrowed := true }
def ConfigAgainUptoSaid : Prop := configAgainUptoRow.holds Tryz.pinned (OpenSpec.upto configAgainSpec)

/-- 'gatepostlaw17.ViewOf', WHERE WHAT IT READS IS OF BULK AT MOST 1048576: true; the input reads as it did. -/
def viewOfUptoRow : OpenClaim := { program := "ytmnfjejphmmddaagreat", sum := "2423f8b13e0193e06a8f63bba3277f787075a10ac0f63f31606902968d54cd10", func := "gatepost/gatepostlaw17.ViewOf", spec := "viewOf", unfollowed := true, recurses := true, apart := false, narrowed := true }
def ViewOfUptoSaid : Prop := viewOfUptoRow.holds Tryz.pinned (OpenSpec.upto viewOfSpec)

/-- 'gatepostlaw17.ViewFinds', WHERE WHAT IT READS IS OF BULK AT MOST 1048576: true; the input reads as it did. -/
def viewFindsUptoRow : OpenClaim := { program := "ytmnfjejphmmddaagreat", sum := "2423f8b13e0193e06a8f63bba3277f787075a10ac0f63f31606902968d54cd10", func := "gatepost/gatepostlaw17.ViewFinds", spec := "viewFinds", unfollowed := true, recurses := true, apart := false, narrowed := true }
def ViewFindsUptoSaid : Prop := viewFindsUptoRow.holds Tryz.pinned (OpenSpec.upto viewFindsSpec)

/-- 'gatepostlaw17.ViewMore', WHERE WHAT IT READS IS OF BULK AT MOST 1048576: true; the input reads as it did. -/
def viewMoreUptoRow : OpenClaim := { program := "ytmnfjejphmmddaagreat", sum := "2423f8b13e0193e06a8f63bba3277f787075a10ac0f63f31606902968d54cd10", func := "gatepost/gatepostlaw17.ViewMore", spec := "viewMore", unfollowed := true, recurses := true, apart := false, narrowed := true }
def ViewMoreUptoSaid : Prop := viewMoreUptoRow.holds Tryz.pinned (OpenSpec.upto viewMoreSpec)

/-- 'gatepostlaw17.ViewTrue', WHERE WHAT IT READS IS OF BULK AT MOST 1048576: true; the input reads as it did. -/
def viewTrueUptoRow : OpenClaim := { program := "ytmnfjejphmmddaagreat", sum := "2423f8b13e0193e06a8f63bba3277f787075a10ac0f63f31606902968d54cd10", func := "gatepost/gatepostlaw17.ViewTrue", spec := "viewTrue", unfollowed := true, recurses := true, apart := false, narrowed := true }
def ViewTrueUptoSaid : Prop := viewTrueUptoRow.holds Tryz.pinned (OpenSpec.upto viewTrueSpec)

end Rows
end Go.Proofs.YtmnfjejphmmddaaGreat
