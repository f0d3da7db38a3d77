/- Closed facts of the program that a row at function 3 asks for, one by one: together they are too much for one check. -/
import Derived.Test.YtllbjfmiilckiaaGreatPfacts
import Derived.ProofKit
import Derived.JoinedCond
set_option linter.unusedVariables false
set_option maxRecDepth 100000
namespace Go.Proofs.YtllbjfmiilckiaaGreat
open Go.ChangeShapes Go.WideShapes Go.ChangeAt Go.RowKit
namespace viewDiffs
theorem Tt:(Go.Proofs.YtllbjfmiilckiaaGreat.Rows.viewDiffsUptoRow.inPlace==Tryz.prog.inPlace 3)=true:=by kernel_rfl
theorem Tu:(Go.Proofs.YtllbjfmiilckiaaGreat.Rows.viewDiffsUptoRow.unfollowed==Tryz.prog.unfollowed 3)=true:=by kernel_rfl
theorem Tv:(Go.Proofs.YtllbjfmiilckiaaGreat.Rows.viewDiffsUptoRow.recurses==Tryz.prog.recurses 3)=true:=by kernel_rfl
theorem Tw:(Go.Proofs.YtllbjfmiilckiaaGreat.Rows.viewDiffsUptoRow.named==Tryz.prog.varsNamed 3)=true:=by kernel_rfl
theorem named:Go.Proofs.YtllbjfmiilckiaaGreat.Tryz.pinned.checked.prog.funcNamed Go.Proofs.YtllbjfmiilckiaaGreat.Rows.viewDiffsUptoRow.func=some 3:=by kernel_rfl
theorem facts:joinedFacts Tryz.prog 3 Tryz.f3 (Go.Proofs.YtllbjfmiilckiaaGreat.Rows.OpenSpec.upto Go.Proofs.YtllbjfmiilckiaaGreat.Rows.viewDiffsSpec).bare Go.Proofs.YtllbjfmiilckiaaGreat.Rows.viewDiffsUptoRow=true:=by
 simp only [joinedFacts,Bool.and_eq_true];refine ⟨⟨⟨⟨⟨⟨⟨⟨⟨⟨⟨⟨⟨⟨⟨⟨⟨⟨⟨⟨⟨⟨⟨⟨⟨⟨⟨⟨⟨⟨⟨?a1,?a2⟩,?a3⟩,?a4⟩,?a5⟩,?a6⟩,?a7⟩,?a8⟩,?a9⟩,?a10⟩,?a11⟩,?a12⟩,?a13⟩,?a14⟩,?a15⟩,?a16⟩,?a17⟩,?a18⟩,?a19⟩,?a20⟩,?a21⟩,?a22⟩,?a23⟩,?a24⟩,?a25⟩,?a26⟩,?a27⟩,?a28⟩,?a29⟩,?a30⟩,?a31⟩,?a32⟩
 case a10=>exact Tt
 case a11=>exact Tu
 case a12=>exact Tv
 case a13=>exact Tw
 case a2=>exact laidOut
 case a3=>exact NL
 case a23=>exact NK
 case a25=>exact NH
 case a26=>exact NG
 case a27=>exact NI
 case a28=>exact NJ
 all_goals kernel_rfl
end viewDiffs
