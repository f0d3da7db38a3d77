/- Closed facts of the program that every row asks for, one by one: together they are too much for one check. -/
import Derived.Test.YtjkfknafpgfchaaGreatRows
import Derived.ProofKit
import Derived.JoinedCond
set_option linter.unusedVariables false
set_option maxRecDepth 100000
namespace Go.Proofs.YtjkfknafpgfchaaGreat
theorem laidOut:laidOutB Tryz.prog = true:=by kernel_rfl
theorem Ub:Tryz.prog.mayEnter = true:=by kernel_rfl
theorem Uc:Tryz.prog.stopsHeard = true:=by kernel_rfl
theorem Ud:(Go.Proofs.YtjkfknafpgfchaaGreat.Rows.viewBackUptoRow.lifted == Tryz.prog.liftsFinal) = true:=by kernel_rfl
theorem Ue:(Tryz.prog.make == some Go.Proofs.YtjkfknafpgfchaaGreat.Rows.viewBackUptoRow.make) = true:=by kernel_rfl
theorem Uf:(Go.Proofs.YtjkfknafpgfchaaGreat.Rows.viewBackUptoRow.plainKeys == Tryz.prog.plainKeys) = true:=by kernel_rfl
theorem Ug:mapsRowed Tryz.prog = true:=by kernel_rfl
end Go.Proofs.YtjkfknafpgfchaaGreat
