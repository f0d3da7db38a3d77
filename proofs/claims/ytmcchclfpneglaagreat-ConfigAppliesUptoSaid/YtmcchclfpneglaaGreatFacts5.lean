/- Closed facts of the program that a row at function 3 asks for, one by one: together they are too much for one check. -/
import Derived.Test.YtmcchclfpneglaaGreatPfacts
import Derived.ProofKit
import Derived.JoinedCond
set_option linter.unusedVariables false
set_option maxRecDepth 100000
namespace Go.Proofs.YtmcchclfpneglaaGreat
open Go.ChangeShapes Go.WideShapes Go.ChangeAt Go.RowKit
namespace configApplies
theorem Tp:(Go.Proofs.YtmcchclfpneglaaGreat.Rows.configAppliesUptoRow.inPlace==Tryz.prog.inPlace 3)=true:=by kernel_rfl
theorem Tq:(Go.Proofs.YtmcchclfpneglaaGreat.Rows.configAppliesUptoRow.unfollowed==Tryz.prog.unfollowed 3)=true:=by kernel_rfl
theorem Tt:(Go.Proofs.YtmcchclfpneglaaGreat.Rows.configAppliesUptoRow.recurses==Tryz.prog.recurses 3)=true:=by kernel_rfl
theorem Tu:(Go.Proofs.YtmcchclfpneglaaGreat.Rows.configAppliesUptoRow.named==Tryz.prog.varsNamed 3)=true:=by kernel_rfl
theorem named:Go.Proofs.YtmcchclfpneglaaGreat.Tryz.pinned.checked.prog.funcNamed Go.Proofs.YtmcchclfpneglaaGreat.Rows.configAppliesUptoRow.func=some 3:=by kernel_rfl
theorem facts:joinedFacts Tryz.prog 3 Tryz.f3 (Go.Proofs.YtmcchclfpneglaaGreat.Rows.OpenSpec.upto Go.Proofs.YtmcchclfpneglaaGreat.Rows.configAppliesSpec).bare Go.Proofs.YtmcchclfpneglaaGreat.Rows.configAppliesUptoRow=true:=by
 simp only [joinedFacts,Bool.and_eq_true];refine ⟨⟨⟨⟨⟨⟨⟨⟨⟨⟨⟨⟨⟨⟨⟨⟨⟨⟨⟨⟨⟨⟨⟨⟨⟨⟨⟨⟨⟨⟨⟨?a1,?a2⟩,?a3⟩,?a4⟩,?a5⟩,?a6⟩,?a7⟩,?a8⟩,?a9⟩,?a10⟩,?a11⟩,?a12⟩,?a13⟩,?a14⟩,?a15⟩,?a16⟩,?a17⟩,?a18⟩,?a19⟩,?a20⟩,?a21⟩,?a22⟩,?a23⟩,?a24⟩,?a25⟩,?a26⟩,?a27⟩,?a28⟩,?a29⟩,?a30⟩,?a31⟩,?a32⟩
 case a10=>exact Tp
 case a11=>exact Tq
 case a12=>exact Tt
 case a13=>exact Tu
 case a2=>exact laidOut
 case a3=>exact O4
 case a23=>exact O3
 case a25=>exact OZ
 case a26=>exact OY
 case a27=>exact O0
 case a28=>exact O1
 all_goals kernel_rfl
end configApplies
