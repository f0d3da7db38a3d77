/-
  No cell of these rows narrows 'for every input' (looked for: loops, veiled, ifaces, maps, wideKeys, modest, calm, conditions, laid).
  DERIVED. THE GIVEN ROWS OF THIS SEAT. 4 by the template 'for every input the law returns true; each argument reads behind the call as it read before'; 0 by the template 'total and deterministic' (their statements: YtokgggcjfhebnaaTotals.lean).
  GIVEN WITH THE SEED: the statements are not yours to turn. If you find one false, say at which input.
  Laid BY PROGRAM, IN A SANDBOX (cutbox-rows.mjs): the forced cells as the released guide's own fill.sh prints them over the translation 79171c8fa202d501… (all of the seat's roots in one cut). By AI agents, Wed Nov 11 2026. No macro, syntax, notation, axiom, sorry.
-/
import Derived.Test.YtokgggcjfhebnaaChecked
import GoSem.Claim
import GoSem.ClaimJoined
import GoSem.ClaimMapViews
import Derived.JoinedTies
import Derived.KernelRfl
namespace Go.Proofs.Ytokgggcjfhebnaa
/- THE CELL 'sum', in the pinned program and in every row, IS THE sha256 OF THE DUMP (.gsa) THAT YtokgggcjfhebnaaProg.lean LOADS. Nothing in Lean hashes anything: it is a label: what it is worth is what the hold of that sum in a sandbox is worth. -/
noncomputable def Try.pinned : Pinned := { name := "ytokgggcjfhebnaa", sum := "79171c8fa202d5015771ed9f00ce82467d052c3dce13ff99cabb168008aa4c04", checked := Try.checked }
namespace Rows
def none {H : Type} : Left H := { results := [], args := [] }

/-- 'gatepostlaw20.HoldOnce': WHATEVER THE INPUT: true; the input reads as it did. -/
def holdOnceSpec : ChangeSpec := { name := "holdOnce", fn := fun _ => fun
  | [d1, d2] => { results := [.lit (.bool true)], args := [d1, d2] }
  | _ => none }
def holdOnceRow : OpenClaim := { program := "ytokgggcjfhebnaa", sum := "79171c8fa202d5015771ed9f00ce82467d052c3dce13ff99cabb168008aa4c04", func := "gatepost/gatepostlaw20.HoldOnce", spec := "holdOnce", unfollowed := true, recurses := true, apart := false }
def HoldOnceSaid : Prop := holdOnceRow.holds Try.pinned (OpenSpec.ofChange holdOnceSpec)

/-- ITS FALSE NEIGHBOUR: 'it returns false'. Refute it at one input. -/
def holdOnceWrong : ChangeSpec := { name := "holdOnce", fn := fun _ => fun
  | [d1, d2] => { results := [.lit (.bool false)], args := [d1, d2] }
  | _ => none }
def HoldOnceWrongFalsely : Prop := holdOnceRow.holds Try.pinned (OpenSpec.ofChange holdOnceWrong)

/-- 'gatepostlaw20.HoldApart': WHATEVER THE INPUT: true; the input reads as it did. -/
def holdApartSpec : ChangeSpec := { name := "holdApart", fn := fun _ => fun
  | [d1, d2, d3, d4] => { results := [.lit (.bool true)], args := [d1, d2, d3, d4] }
  | _ => none }
def holdApartRow : OpenClaim := { program := "ytokgggcjfhebnaa", sum := "79171c8fa202d5015771ed9f00ce82467d052c3dce13ff99cabb168008aa4c04", func := "gatepost/gatepostlaw20.HoldApart", spec := "holdApart", unfollowed := true, recurses := true, apart := false }
def HoldApartSaid : Prop := holdApartRow.holds Try.pinned (OpenSpec.ofChange holdApartSpec)

/-- ITS FALSE NEIGHBOUR: 'it returns false'. Refute it at one input. -/
def holdApartWrong : ChangeSpec := { name := "holdApart", fn := fun _ => fun
  | [d1, d2, d3, d4] => { results := [.lit (.bool false)], args := [d1, d2, d3, d4] }
  | _ => none }
def HoldApartWrongFalsely : Prop := holdApartRow.holds Try.pinned (OpenSpec.ofChange holdApartWrong)

/-- 'gatepostlaw20.HoldPlays': WHATEVER THE INPUT: true; the input reads as it did. -/
def holdPlaysSpec : ChangeSpec := { name := "holdPlays", fn := fun _ => fun
  | [d1, d2] => { results := [.lit (.bool true)], args := [d1, d2] }
  | _ => none }
def holdPlaysRow : OpenClaim := { program := "ytokgggcjfhebnaa", sum := "79171c8fa202d5015771ed9f00ce82467d052c3dce13ff99cabb168008aa4c04", func := "gatepost/gatepostlaw20.HoldPlays", spec := "holdPlays", unfollowed := true, recurses := true, apart := false }
def HoldPlaysSaid : Prop := holdPlaysRow.holds Try.pinned (OpenSpec.ofChange holdPlaysSpec)

/-- ITS FALSE NEIGHBOUR: 'it returns false'. Refute it at one input. -/
def holdPlaysWrong : ChangeSpec := { name := "holdPlays", fn := fun _ => fun
  | [d1, d2] => { results := [.lit (.bool false)], args := [d1, d2] }
  | _ => none }
def HoldPlaysWrongFalsely : Prop := holdPlaysRow.holds Try.pinned (OpenSpec.ofChange holdPlaysWrong)

/-- 'gatepostlaw20.HoldNobody': WHATEVER THE INPUT: true; the input reads as it did. -/
def holdNobodySpec : ChangeSpec := { name := "holdNobody", fn := fun _ => fun
  | [d1, d2] => { results := [.lit (.bool true)], args := [d1, d2] }
  | _ => none }
def holdNobodyRow : OpenClaim := { program := "ytokgggcjfhebnaa", sum := "79171c8fa202d5015771ed9f00ce82467d052c3dce13ff99cabb168008aa4c04", func := "gatepost/gatepostlaw20.HoldNobody", spec := "holdNobody", unfollowed := true, recurses := true, apart := false }
def HoldNobodySaid : Prop := holdNobodyRow.holds Try.pinned (OpenSpec.ofChange holdNobodySpec)

/-- ITS FALSE NEIGHBOUR: 'it returns false'. Refute it at one input. -/
def holdNobodyWrong : ChangeSpec := { name := "holdNobody", fn := fun _ => fun
  | [d1, d2] => { results := [.lit (.bool false)], args := [d1, d2] }
  | _ => none }
def HoldNobodyWrongFalsely : Prop := holdNobodyRow.holds Try.pinned (OpenSpec.ofChange holdNobodyWrong)

/- THE SECOND FORM. 'bulk': how many values and letters a reading holds, each counted each time it is reached (what is shared counts as often as it is met; a slice's spare places count too). A statement '..UptoSaid' is the law's where the arguments, and the package variables that the reading takes, are together of bulk at most 1048576: NARROWER than '..Said'. Prove '..Said' where nothing that the law and all that it calls make is longer than what came in: it says more and counts as full. Else prove '..UptoSaid'. A law counts once. -/
mutual
def uptoBulk {H : Type} : DataW H → Nat
  | .lit (.string bytes) => bytes.length + 1
  | .lit _ => 1
  | .nil => 1
  | .ptr d => uptoBulk d + 1
  | .slice elems spare => uptoBulkAll elems + uptoBulkAll spare + 1
  | .agg parts => uptoBulkAll parts + 1
  | .iface _ d => uptoBulk d + 1
  | .map entries => uptoBulkEntries entries + 1
  | .held _ => 1
def uptoBulkAll {H : Type} : List (DataW H) → Nat
  | [] => 0
  | d :: r => uptoBulk d + uptoBulkAll r
def uptoBulkEntries {H : Type} : List (Lit × DataW H) → Nat
  | [] => 0
  | x :: r => uptoBulkEntry x + uptoBulkEntries r
def uptoBulkEntry {H : Type} : Lit × DataW H → Nat
  | (.string bytes, d) => bytes.length + uptoBulk d + 1
  | (_, d) => uptoBulk d + 1
 end
def uptoSmall : (H : Type) → List (DataW H) → Bool := fun _ ds => decide (uptoBulkAll ds ≤ 1048576)
def OpenSpec.upto (s : _root_.Go.ChangeSpec) : _root_.Go.OpenSpec := { _root_.Go.OpenSpec.ofChange s with cond := some uptoSmall }

/-- 'gatepostlaw20.HoldOnce', WHERE WHAT IT READS IS OF BULK AT MOST 1048576: true; the input reads as it did. -/
def holdOnceUptoRow : OpenClaim := { program := "ytokgggcjfhebnaa", sum := "79171c8fa202d5015771ed9f00ce82467d052c3dce13ff99cabb168008aa4c04", func := "gatepost/gatepostlaw20.HoldOnce", spec := "holdOnce", unfollowed := true, recurses := true, apart := false, narrowed := true }
def HoldOnceUptoSaid : Prop := holdOnceUptoRow.holds Try.pinned (OpenSpec.upto holdOnceSpec)

/-- 'gatepostlaw20.HoldApart', WHERE WHAT IT READS IS OF BULK AT MOST 1048576: true; the input reads as it did. -/
def holdApartUptoRow : OpenClaim := { program := "ytokgggcjfhebnaa", sum := "79171c8fa202d5015771ed9f00ce82467d052c3dce13ff99cabb168008aa4c04", func := "gatepost/gatepostlaw20.HoldApart", spec := "holdApart", unfollowed := true, recurses := true, apart := false, narrowed := true }
def HoldApartUptoSaid : Prop := holdApartUptoRow.holds Try.pinned (OpenSpec.upto holdApartSpec)

/-- 'gatepostlaw20.HoldPlays', WHERE WHAT IT READS IS OF BULK AT MOST 1048576: true; the input reads as it did. -/
def holdPlaysUptoRow : OpenClaim := { program := "ytokgggcjfhebnaa", sum := "79171c8fa202d5015771ed9f00ce82467d052c3dce13ff99cabb168008aa4c04", func := "gatepost/gatepostlaw20.HoldPlays", spec := "holdPlays", unfollowed := true, recurses := true, apart := false, narrowed := true }
def HoldPlaysUptoSaid : Prop := holdPlaysUptoRow.holds Try.pinned (OpenSpec.upto holdPlaysSpec)

/-- 'gatepostlaw20.HoldNobody', WHERE WHAT IT READS IS OF BULK AT MOST 1048576: true; the input reads as it did. -/
def holdNobodyUptoRow : OpenClaim := { program := "ytokgggcjfhebnaa", sum := "79171c8fa202d5015771ed9f00ce82467d052c3dce13ff99cabb168008aa4c04", func := "gatepost/gatepostlaw20.HoldNobody", spec := "holdNobody", unfollowed := true, recurses := true, apart := false, narrowed := true }
def HoldNobodyUptoSaid : Prop := holdNobodyUptoRow.holds Try.pinned (OpenSpec.upto holdNobodySpec)

end Rows
end Go.Proofs.Ytokgggcjfhebnaa
