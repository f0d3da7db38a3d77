/- Closed facts of the program that a row at function 3 asks for, one by one: together they are too much for one check. -/
import Derived.Test.YthkeklemhcfbcaaGreatPfacts
import Derived.ProofKit
import Derived.JoinedCond
set_option linter.unusedVariables false
set_option maxRecDepth 100000
namespace Go.Proofs.YthkeklemhcfbcaaGreat
open Go.ChangeShapes Go.WideShapes Go.ChangeAt Go.RowKit
namespace configBack
theorem fact1:(Go.Proofs.YthkeklemhcfbcaaGreat.Rows.configBackUptoRow.inPlace == Tryz.prog.inPlace 3) = true:=by kernel_rfl
theorem fact2:(Go.Proofs.YthkeklemhcfbcaaGreat.Rows.configBackUptoRow.unfollowed == Tryz.prog.unfollowed 3) = true:=by kernel_rfl
theorem fact3:(Go.Proofs.YthkeklemhcfbcaaGreat.Rows.configBackUptoRow.recurses == Tryz.prog.recurses 3) = true:=by kernel_rfl
theorem fact4:(Go.Proofs.YthkeklemhcfbcaaGreat.Rows.configBackUptoRow.named == Tryz.prog.varsNamed 3) = true:=by kernel_rfl
theorem named:Go.Proofs.YthkeklemhcfbcaaGreat.Tryz.pinned.checked.prog.funcNamed Go.Proofs.YthkeklemhcfbcaaGreat.Rows.configBackUptoRow.func = some 3:=by kernel_rfl
theorem facts:joinedFacts Tryz.prog 3 Tryz.f3 (Go.Proofs.YthkeklemhcfbcaaGreat.Rows.OpenSpec.upto Go.Proofs.YthkeklemhcfbcaaGreat.Rows.configBackSpec).bare Go.Proofs.YthkeklemhcfbcaaGreat.Rows.configBackUptoRow = true:=by
 simp only [joinedFacts,Bool.and_eq_true]
 refine ⟨⟨⟨⟨⟨⟨⟨⟨⟨⟨⟨⟨⟨⟨⟨⟨⟨⟨⟨⟨⟨⟨⟨⟨⟨⟨⟨⟨⟨⟨⟨?a1,?a2⟩,?a3⟩,?a4⟩,?a5⟩,?a6⟩,?a7⟩,?a8⟩,?a9⟩,?a10⟩,?a11⟩,?a12⟩,?a13⟩,?a14⟩,?a15⟩,?a16⟩,?a17⟩,?a18⟩,?a19⟩,?a20⟩,?a21⟩,?a22⟩,?a23⟩,?a24⟩,?a25⟩,?a26⟩,?a27⟩,?a28⟩,?a29⟩,?a30⟩,?a31⟩,?a32⟩
 case a10=>exact fact1
 case a11=>exact fact2
 case a12=>exact fact3
 case a13=>exact fact4
 case a2=>exact laidOut
 case a3=>exact pfact6
 case a23=>exact pfact5
 case a25=>exact pfact2
 case a26=>exact pfact1
 case a27=>exact pfact3
 case a28=>exact pfact4
 all_goals kernel_rfl
end configBack
end Go.Proofs.YthkeklemhcfbcaaGreat
