/- Closed facts of the program that every row asks for, one by one: together they are too much for one check. -/
import Derived.Test.YtadlkhfomhgllaaGreatRows
import Derived.ProofKit
import Derived.JoinedCond
set_option linter.unusedVariables false
set_option maxRecDepth 100000
namespace Go.Proofs.YtadlkhfomhgllaaGreat
theorem laidOut:laidOutB Tryz.prog=true:=by kernel_rfl
theorem Rb:Tryz.prog.mayEnter=true:=by kernel_rfl
theorem Rc:Tryz.prog.stopsHeard=true:=by kernel_rfl
theorem Re:(Go.Proofs.YtadlkhfomhgllaaGreat.Rows.configBytesUptoRow.lifted==Tryz.prog.liftsFinal)=true:=by kernel_rfl
theorem Rf:(Tryz.prog.make==some Go.Proofs.YtadlkhfomhgllaaGreat.Rows.configBytesUptoRow.make)=true:=by kernel_rfl
theorem Ri:(Go.Proofs.YtadlkhfomhgllaaGreat.Rows.configBytesUptoRow.plainKeys==Tryz.prog.plainKeys)=true:=by kernel_rfl
theorem Rj:mapsRowed Tryz.prog=true:=by kernel_rfl
