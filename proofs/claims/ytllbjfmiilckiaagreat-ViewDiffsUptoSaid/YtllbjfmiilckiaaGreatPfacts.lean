/- Closed facts of the program that every row asks for, one by one: together they are too much for one check. -/
import Derived.Test.YtllbjfmiilckiaaGreatRows
import Derived.ProofKit
import Derived.JoinedCond
set_option linter.unusedVariables false
set_option maxRecDepth 100000
namespace Go.Proofs.YtllbjfmiilckiaaGreat
theorem laidOut:laidOutB Tryz.prog=true:=by kernel_rfl
theorem NG:Tryz.prog.mayEnter=true:=by kernel_rfl
theorem NH:Tryz.prog.stopsHeard=true:=by kernel_rfl
theorem NI:(Go.Proofs.YtllbjfmiilckiaaGreat.Rows.viewDiffsUptoRow.lifted==Tryz.prog.liftsFinal)=true:=by kernel_rfl
theorem NJ:(Tryz.prog.make==some Go.Proofs.YtllbjfmiilckiaaGreat.Rows.viewDiffsUptoRow.make)=true:=by kernel_rfl
theorem NK:(Go.Proofs.YtllbjfmiilckiaaGreat.Rows.viewDiffsUptoRow.plainKeys==Tryz.prog.plainKeys)=true:=by kernel_rfl
theorem NL:mapsRowed Tryz.prog=true:=by kernel_rfl
