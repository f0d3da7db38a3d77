/- Closed facts of the program that every row asks for, one by one: together they are too much for one check. -/
import Derived.Test.YtjeflmaikicdnaaGreatRows
import Derived.ProofKit
import Derived.JoinedCond
set_option linter.unusedVariables false
set_option maxRecDepth 100000
namespace Go.Proofs.YtjeflmaikicdnaaGreat
theorem laidOut:laidOutB Tryz.prog=true:=by kernel_rfl
theorem Tm:Tryz.prog.mayEnter=true:=by kernel_rfl
theorem Tn:Tryz.prog.stopsHeard=true:=by kernel_rfl
theorem Tp:(Go.Proofs.YtjeflmaikicdnaaGreat.Rows.feedRowUptoRow.lifted==Tryz.prog.liftsFinal)=true:=by kernel_rfl
theorem Tq:(Tryz.prog.make==some Go.Proofs.YtjeflmaikicdnaaGreat.Rows.feedRowUptoRow.make)=true:=by kernel_rfl
theorem Tt:(Go.Proofs.YtjeflmaikicdnaaGreat.Rows.feedRowUptoRow.plainKeys==Tryz.prog.plainKeys)=true:=by kernel_rfl
theorem Tu:mapsRowed Tryz.prog=true:=by kernel_rfl
