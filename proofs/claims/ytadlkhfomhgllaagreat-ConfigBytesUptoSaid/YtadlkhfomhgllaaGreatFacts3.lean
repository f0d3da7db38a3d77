/- Closed facts of the program that a row at function 3 asks for, one by one: together they are too much for one check. -/
import Derived.Test.YtadlkhfomhgllaaGreatPfacts
import Derived.ProofKit
import Derived.JoinedCond
set_option linter.unusedVariables false
set_option maxRecDepth 100000
namespace Go.Proofs.YtadlkhfomhgllaaGreat
open Go.ChangeShapes Go.WideShapes Go.ChangeAt Go.RowKit
namespace configBytes
theorem VX:(Go.Proofs.YtadlkhfomhgllaaGreat.Rows.configBytesUptoRow.inPlace==Tryz.prog.inPlace 3)=true:=by kernel_rfl
theorem VY:(Go.Proofs.YtadlkhfomhgllaaGreat.Rows.configBytesUptoRow.unfollowed==Tryz.prog.unfollowed 3)=true:=by kernel_rfl
theorem VZ:(Go.Proofs.YtadlkhfomhgllaaGreat.Rows.configBytesUptoRow.recurses==Tryz.prog.recurses 3)=true:=by kernel_rfl
theorem V3:(Go.Proofs.YtadlkhfomhgllaaGreat.Rows.configBytesUptoRow.named==Tryz.prog.varsNamed 3)=true:=by kernel_rfl
theorem named:Go.Proofs.YtadlkhfomhgllaaGreat.Tryz.pinned.checked.prog.funcNamed Go.Proofs.YtadlkhfomhgllaaGreat.Rows.configBytesUptoRow.func=some 3:=by kernel_rfl
theorem facts:joinedFacts Tryz.prog 3 Tryz.f3 (Go.Proofs.YtadlkhfomhgllaaGreat.Rows.OpenSpec.upto Go.Proofs.YtadlkhfomhgllaaGreat.Rows.configBytesSpec).bare Go.Proofs.YtadlkhfomhgllaaGreat.Rows.configBytesUptoRow=true:=by
 simp only [joinedFacts,Bool.and_eq_true];refine ⟨⟨⟨⟨⟨⟨⟨⟨⟨⟨⟨⟨⟨⟨⟨⟨⟨⟨⟨⟨⟨⟨⟨⟨⟨⟨⟨⟨⟨⟨⟨?a1,?a2⟩,?a3⟩,?a4⟩,?a5⟩,?a6⟩,?a7⟩,?a8⟩,?a9⟩,?a10⟩,?a11⟩,?a12⟩,?a13⟩,?a14⟩,?a15⟩,?a16⟩,?a17⟩,?a18⟩,?a19⟩,?a20⟩,?a21⟩,?a22⟩,?a23⟩,?a24⟩,?a25⟩,?a26⟩,?a27⟩,?a28⟩,?a29⟩,?a30⟩,?a31⟩,?a32⟩
 case a10=>exact VX
 case a11=>exact VY
 case a12=>exact VZ
 case a13=>exact V3
 case a2=>exact laidOut
 case a3=>exact Rj
 case a23=>exact Ri
 case a25=>exact Rc
 case a26=>exact Rb
 case a27=>exact Re
 case a28=>exact Rf
 all_goals kernel_rfl
end configBytes
