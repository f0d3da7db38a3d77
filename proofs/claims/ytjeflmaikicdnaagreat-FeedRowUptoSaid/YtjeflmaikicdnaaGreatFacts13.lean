/- Closed facts of the program that a row at function 3 asks for, one by one: together they are too much for one check. -/
import Derived.Test.YtjeflmaikicdnaaGreatPfacts
import Derived.ProofKit
import Derived.JoinedCond
set_option linter.unusedVariables false
set_option maxRecDepth 100000
namespace Go.Proofs.YtjeflmaikicdnaaGreat
open Go.ChangeShapes Go.WideShapes Go.ChangeAt Go.RowKit
namespace feedRow
theorem XT:(Go.Proofs.YtjeflmaikicdnaaGreat.Rows.feedRowUptoRow.inPlace==Tryz.prog.inPlace 3)=true:=by kernel_rfl
theorem XU:(Go.Proofs.YtjeflmaikicdnaaGreat.Rows.feedRowUptoRow.unfollowed==Tryz.prog.unfollowed 3)=true:=by kernel_rfl
theorem XV:(Go.Proofs.YtjeflmaikicdnaaGreat.Rows.feedRowUptoRow.recurses==Tryz.prog.recurses 3)=true:=by kernel_rfl
theorem XW:(Go.Proofs.YtjeflmaikicdnaaGreat.Rows.feedRowUptoRow.named==Tryz.prog.varsNamed 3)=true:=by kernel_rfl
theorem named:Go.Proofs.YtjeflmaikicdnaaGreat.Tryz.pinned.checked.prog.funcNamed Go.Proofs.YtjeflmaikicdnaaGreat.Rows.feedRowUptoRow.func=some 3:=by kernel_rfl
theorem facts:joinedFacts Tryz.prog 3 Tryz.f3 (Go.Proofs.YtjeflmaikicdnaaGreat.Rows.OpenSpec.upto Go.Proofs.YtjeflmaikicdnaaGreat.Rows.feedRowSpec).bare Go.Proofs.YtjeflmaikicdnaaGreat.Rows.feedRowUptoRow=true:=by
 simp only [joinedFacts,Bool.and_eq_true];refine ⟨⟨⟨⟨⟨⟨⟨⟨⟨⟨⟨⟨⟨⟨⟨⟨⟨⟨⟨⟨⟨⟨⟨⟨⟨⟨⟨⟨⟨⟨⟨?a1,?a2⟩,?a3⟩,?a4⟩,?a5⟩,?a6⟩,?a7⟩,?a8⟩,?a9⟩,?a10⟩,?a11⟩,?a12⟩,?a13⟩,?a14⟩,?a15⟩,?a16⟩,?a17⟩,?a18⟩,?a19⟩,?a20⟩,?a21⟩,?a22⟩,?a23⟩,?a24⟩,?a25⟩,?a26⟩,?a27⟩,?a28⟩,?a29⟩,?a30⟩,?a31⟩,?a32⟩
 case a10=>exact XT
 case a11=>exact XU
 case a12=>exact XV
 case a13=>exact XW
 case a2=>exact laidOut
 case a3=>exact Tu
 case a23=>exact Tt
 case a25=>exact Tn
 case a26=>exact Tm
 case a27=>exact Tp
 case a28=>exact Tq
 all_goals kernel_rfl
end feedRow
