/- Closed facts of the program that a row at function 3 asks for, one by one: together they are too much for one check. -/
import Derived.Test.YtjkfknafpgfchaaGreatPfacts
import Derived.ProofKit
import Derived.JoinedCond
set_option linter.unusedVariables false
set_option maxRecDepth 100000
namespace Go.Proofs.YtjkfknafpgfchaaGreat
open Go.ChangeShapes Go.WideShapes Go.ChangeAt Go.RowKit
namespace viewBack
theorem XX:(Go.Proofs.YtjkfknafpgfchaaGreat.Rows.viewBackUptoRow.inPlace == Tryz.prog.inPlace 3) = true:=by kernel_rfl
theorem XY:(Go.Proofs.YtjkfknafpgfchaaGreat.Rows.viewBackUptoRow.unfollowed == Tryz.prog.unfollowed 3) = true:=by kernel_rfl
theorem XZ:(Go.Proofs.YtjkfknafpgfchaaGreat.Rows.viewBackUptoRow.recurses == Tryz.prog.recurses 3) = true:=by kernel_rfl
theorem X0:(Go.Proofs.YtjkfknafpgfchaaGreat.Rows.viewBackUptoRow.named == Tryz.prog.varsNamed 3) = true:=by kernel_rfl
theorem named:Go.Proofs.YtjkfknafpgfchaaGreat.Tryz.pinned.checked.prog.funcNamed Go.Proofs.YtjkfknafpgfchaaGreat.Rows.viewBackUptoRow.func = some 3:=by kernel_rfl
theorem facts:joinedFacts Tryz.prog 3 Tryz.f3 (Go.Proofs.YtjkfknafpgfchaaGreat.Rows.OpenSpec.upto Go.Proofs.YtjkfknafpgfchaaGreat.Rows.viewBackSpec).bare Go.Proofs.YtjkfknafpgfchaaGreat.Rows.viewBackUptoRow = true:=by
 simp only [joinedFacts,Bool.and_eq_true];refine ⟨⟨⟨⟨⟨⟨⟨⟨⟨⟨⟨⟨⟨⟨⟨⟨⟨⟨⟨⟨⟨⟨⟨⟨⟨⟨⟨⟨⟨⟨⟨?a1,?a2⟩,?a3⟩,?a4⟩,?a5⟩,?a6⟩,?a7⟩,?a8⟩,?a9⟩,?a10⟩,?a11⟩,?a12⟩,?a13⟩,?a14⟩,?a15⟩,?a16⟩,?a17⟩,?a18⟩,?a19⟩,?a20⟩,?a21⟩,?a22⟩,?a23⟩,?a24⟩,?a25⟩,?a26⟩,?a27⟩,?a28⟩,?a29⟩,?a30⟩,?a31⟩,?a32⟩
 case a10=>exact XX
 case a11=>exact XY
 case a12=>exact XZ
 case a13=>exact X0
 case a2=>exact laidOut
 case a3=>exact Ug
 case a23=>exact Uf
 case a25=>exact Uc
 case a26=>exact Ub
 case a27=>exact Ud
 case a28=>exact Ue
 all_goals kernel_rfl
end viewBack
end Go.Proofs.YtjkfknafpgfchaaGreat
