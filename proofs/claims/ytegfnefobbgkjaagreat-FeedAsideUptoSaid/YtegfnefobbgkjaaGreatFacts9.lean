/- Closed facts of the program that a row at function 3 asks for, one by one: together they are too much for one check. -/
import Derived.Test.YtegfnefobbgkjaaGreatPfacts
import Derived.ProofKit
import Derived.JoinedCond
set_option linter.unusedVariables false
set_option maxRecDepth 100000
namespace Go.Proofs.YtegfnefobbgkjaaGreat
open Go.ChangeShapes Go.WideShapes Go.ChangeAt Go.RowKit
namespace feedAside
theorem fact1:(Go.Proofs.YtegfnefobbgkjaaGreat.Rows.feedAsideUptoRow.inPlace == Tryz.prog.inPlace 3) = true:=by kernel_rfl
theorem fact2:(Go.Proofs.YtegfnefobbgkjaaGreat.Rows.feedAsideUptoRow.unfollowed == Tryz.prog.unfollowed 3) = true:=by kernel_rfl
theorem fact3:(Go.Proofs.YtegfnefobbgkjaaGreat.Rows.feedAsideUptoRow.recurses == Tryz.prog.recurses 3) = true:=by kernel_rfl
theorem fact4:(Go.Proofs.YtegfnefobbgkjaaGreat.Rows.feedAsideUptoRow.named == Tryz.prog.varsNamed 3) = true:=by kernel_rfl
theorem named:Go.Proofs.YtegfnefobbgkjaaGreat.Tryz.pinned.checked.prog.funcNamed Go.Proofs.YtegfnefobbgkjaaGreat.Rows.feedAsideUptoRow.func = some 3:=by kernel_rfl
theorem facts:joinedFacts Tryz.prog 3 Tryz.f3 (Go.Proofs.YtegfnefobbgkjaaGreat.Rows.OpenSpec.upto Go.Proofs.YtegfnefobbgkjaaGreat.Rows.feedAsideSpec).bare Go.Proofs.YtegfnefobbgkjaaGreat.Rows.feedAsideUptoRow = true:=by
 simp only [joinedFacts,Bool.and_eq_true]
 refine ⟨⟨⟨⟨⟨⟨⟨⟨⟨⟨⟨⟨⟨⟨⟨⟨⟨⟨⟨⟨⟨⟨⟨⟨⟨⟨⟨⟨⟨⟨⟨?a1,?a2⟩,?a3⟩,?a4⟩,?a5⟩,?a6⟩,?a7⟩,?a8⟩,?a9⟩,?a10⟩,?a11⟩,?a12⟩,?a13⟩,?a14⟩,?a15⟩,?a16⟩,?a17⟩,?a18⟩,?a19⟩,?a20⟩,?a21⟩,?a22⟩,?a23⟩,?a24⟩,?a25⟩,?a26⟩,?a27⟩,?a28⟩,?a29⟩,?a30⟩,?a31⟩,?a32⟩
 case a10=>exact fact1
 case a11=>exact fact2
 case a12=>exact fact3
 case a13=>exact fact4
 case a2=>exact laidOut
 case a3=>exact pfact6
 case a23=>exact pfact5
 case a25=>exact pfact2
 case a26=>exact pfact1
 case a27=>exact pfact3
 case a28=>exact pfact4
 all_goals kernel_rfl
end feedAside
end Go.Proofs.YtegfnefobbgkjaaGreat
