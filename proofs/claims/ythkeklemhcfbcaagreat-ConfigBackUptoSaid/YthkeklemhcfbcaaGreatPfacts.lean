/- Closed facts of the program that every row asks for, one by one: together they are too much for one check. -/
import Derived.Test.YthkeklemhcfbcaaGreatRows
import Derived.ProofKit
import Derived.JoinedCond
set_option linter.unusedVariables false
set_option maxRecDepth 100000
namespace Go.Proofs.YthkeklemhcfbcaaGreat
theorem laidOut:laidOutB Tryz.prog = true:=by kernel_rfl
theorem pfact1:Tryz.prog.mayEnter = true:=by kernel_rfl
theorem pfact2:Tryz.prog.stopsHeard = true:=by kernel_rfl
theorem pfact3:(Go.Proofs.YthkeklemhcfbcaaGreat.Rows.configBackUptoRow.lifted == Tryz.prog.liftsFinal) = true:=by kernel_rfl
theorem pfact4:(Tryz.prog.make == some Go.Proofs.YthkeklemhcfbcaaGreat.Rows.configBackUptoRow.make) = true:=by kernel_rfl
theorem pfact5:(Go.Proofs.YthkeklemhcfbcaaGreat.Rows.configBackUptoRow.plainKeys == Tryz.prog.plainKeys) = true:=by kernel_rfl
theorem pfact6:mapsRowed Tryz.prog = true:=by kernel_rfl
end Go.Proofs.YthkeklemhcfbcaaGreat
