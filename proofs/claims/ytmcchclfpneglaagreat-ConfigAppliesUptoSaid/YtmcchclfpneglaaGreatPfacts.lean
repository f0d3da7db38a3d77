/- Closed facts of the program that every row asks for, one by one: together they are too much for one check. -/
import Derived.Test.YtmcchclfpneglaaGreatRows
import Derived.ProofKit
import Derived.JoinedCond
set_option linter.unusedVariables false
set_option maxRecDepth 100000
namespace Go.Proofs.YtmcchclfpneglaaGreat
theorem laidOut:laidOutB Tryz.prog=true:=by kernel_rfl
theorem OY:Tryz.prog.mayEnter=true:=by kernel_rfl
theorem OZ:Tryz.prog.stopsHeard=true:=by kernel_rfl
theorem O0:(Go.Proofs.YtmcchclfpneglaaGreat.Rows.configAppliesUptoRow.lifted==Tryz.prog.liftsFinal)=true:=by kernel_rfl
theorem O1:(Tryz.prog.make==some Go.Proofs.YtmcchclfpneglaaGreat.Rows.configAppliesUptoRow.make)=true:=by kernel_rfl
theorem O3:(Go.Proofs.YtmcchclfpneglaaGreat.Rows.configAppliesUptoRow.plainKeys==Tryz.prog.plainKeys)=true:=by kernel_rfl
theorem O4:mapsRowed Tryz.prog=true:=by kernel_rfl
