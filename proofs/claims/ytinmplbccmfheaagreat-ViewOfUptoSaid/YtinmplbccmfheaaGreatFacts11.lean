/- Closed facts of the program that a row at function 3 asks for, one by one: together they are too much for one check. -/
import Derived.Test.YtinmplbccmfheaaGreatPfacts
import Derived.ProofKit
import Derived.JoinedCond
set_option linter.unusedVariables false
set_option maxRecDepth 100000
namespace Go.Proofs.YtinmplbccmfheaaGreat
open Go.ChangeShapes Go.WideShapes Go.ChangeAt Go.RowKit
namespace viewOf
theorem Wt:(Go.Proofs.YtinmplbccmfheaaGreat.Rows.viewOfUptoRow.inPlace==Tryz.prog.inPlace 3)=true:=by kernel_rfl
theorem Wu:(Go.Proofs.YtinmplbccmfheaaGreat.Rows.viewOfUptoRow.unfollowed==Tryz.prog.unfollowed 3)=true:=by kernel_rfl
theorem Wv:(Go.Proofs.YtinmplbccmfheaaGreat.Rows.viewOfUptoRow.recurses==Tryz.prog.recurses 3)=true:=by kernel_rfl
theorem Ww:(Go.Proofs.YtinmplbccmfheaaGreat.Rows.viewOfUptoRow.named==Tryz.prog.varsNamed 3)=true:=by kernel_rfl
theorem named:Go.Proofs.YtinmplbccmfheaaGreat.Tryz.pinned.checked.prog.funcNamed Go.Proofs.YtinmplbccmfheaaGreat.Rows.viewOfUptoRow.func=some 3:=by kernel_rfl
theorem facts:joinedFacts Tryz.prog 3 Tryz.f3 (Go.Proofs.YtinmplbccmfheaaGreat.Rows.OpenSpec.upto Go.Proofs.YtinmplbccmfheaaGreat.Rows.viewOfSpec).bare Go.Proofs.YtinmplbccmfheaaGreat.Rows.viewOfUptoRow=true:=by
 simp only [joinedFacts,Bool.and_eq_true];refine ⟨⟨⟨⟨⟨⟨⟨⟨⟨⟨⟨⟨⟨⟨⟨⟨⟨⟨⟨⟨⟨⟨⟨⟨⟨⟨⟨⟨⟨⟨⟨?a1,?a2⟩,?a3⟩,?a4⟩,?a5⟩,?a6⟩,?a7⟩,?a8⟩,?a9⟩,?a10⟩,?a11⟩,?a12⟩,?a13⟩,?a14⟩,?a15⟩,?a16⟩,?a17⟩,?a18⟩,?a19⟩,?a20⟩,?a21⟩,?a22⟩,?a23⟩,?a24⟩,?a25⟩,?a26⟩,?a27⟩,?a28⟩,?a29⟩,?a30⟩,?a31⟩,?a32⟩
 case a10=>exact Wt
 case a11=>exact Wu
 case a12=>exact Wv
 case a13=>exact Ww
 case a2=>exact laidOut
 case a3=>exact RB
 case a23=>exact RA
 case a25=>exact Rx
 case a26=>exact Rw
 case a27=>exact Ry
 case a28=>exact Rz
 all_goals kernel_rfl
end viewOf
