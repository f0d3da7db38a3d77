/- Closed facts of the program that a row at function 3 asks for, one by one: together they are too much for one check. -/
import Derived.Test.YtoecipeaknldaaaGreatPfacts
import Derived.ProofKit
import Derived.JoinedCond
set_option linter.unusedVariables false
set_option maxRecDepth 100000
namespace Go.Proofs.YtoecipeaknldaaaGreat
open Go.ChangeShapes Go.WideShapes Go.ChangeAt Go.RowKit
namespace indexTakes
theorem Ro:(Go.Proofs.YtoecipeaknldaaaGreat.Rows.indexTakesUptoRow.inPlace==Tryz.prog.inPlace 3)=true:=by kernel_rfl
theorem Rp:(Go.Proofs.YtoecipeaknldaaaGreat.Rows.indexTakesUptoRow.unfollowed==Tryz.prog.unfollowed 3)=true:=by kernel_rfl
theorem Rq:(Go.Proofs.YtoecipeaknldaaaGreat.Rows.indexTakesUptoRow.recurses==Tryz.prog.recurses 3)=true:=by kernel_rfl
theorem Rs:(Go.Proofs.YtoecipeaknldaaaGreat.Rows.indexTakesUptoRow.named==Tryz.prog.varsNamed 3)=true:=by kernel_rfl
theorem named:Go.Proofs.YtoecipeaknldaaaGreat.Tryz.pinned.checked.prog.funcNamed Go.Proofs.YtoecipeaknldaaaGreat.Rows.indexTakesUptoRow.func=some 3:=by kernel_rfl
theorem facts:joinedFacts Tryz.prog 3 Tryz.f3 (Go.Proofs.YtoecipeaknldaaaGreat.Rows.OpenSpec.upto Go.Proofs.YtoecipeaknldaaaGreat.Rows.indexTakesSpec).bare Go.Proofs.YtoecipeaknldaaaGreat.Rows.indexTakesUptoRow=true:=by
 simp only [joinedFacts,Bool.and_eq_true];refine ⟨⟨⟨⟨⟨⟨⟨⟨⟨⟨⟨⟨⟨⟨⟨⟨⟨⟨⟨⟨⟨⟨⟨⟨⟨⟨⟨⟨⟨⟨⟨?a1,?a2⟩,?a3⟩,?a4⟩,?a5⟩,?a6⟩,?a7⟩,?a8⟩,?a9⟩,?a10⟩,?a11⟩,?a12⟩,?a13⟩,?a14⟩,?a15⟩,?a16⟩,?a17⟩,?a18⟩,?a19⟩,?a20⟩,?a21⟩,?a22⟩,?a23⟩,?a24⟩,?a25⟩,?a26⟩,?a27⟩,?a28⟩,?a29⟩,?a30⟩,?a31⟩,?a32⟩
 case a10=>exact Ro
 case a11=>exact Rp
 case a12=>exact Rq
 case a13=>exact Rs
 case a2=>exact laidOut
 case a3=>exact Nk
 case a23=>exact Nj
 case a25=>exact Ng
 case a26=>exact Nf
 case a27=>exact Nh
 case a28=>exact Ni
 all_goals kernel_rfl
end indexTakes
