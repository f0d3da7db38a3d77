/- Closed facts of the program that every row asks for, one by one: together they are too much for one check. -/
import Derived.Test.YtinmplbccmfheaaGreatRows
import Derived.ProofKit
import Derived.JoinedCond
set_option linter.unusedVariables false
set_option maxRecDepth 100000
namespace Go.Proofs.YtinmplbccmfheaaGreat
theorem laidOut:laidOutB Tryz.prog=true:=by kernel_rfl
theorem Rw:Tryz.prog.mayEnter=true:=by kernel_rfl
theorem Rx:Tryz.prog.stopsHeard=true:=by kernel_rfl
theorem Ry:(Go.Proofs.YtinmplbccmfheaaGreat.Rows.viewOfUptoRow.lifted==Tryz.prog.liftsFinal)=true:=by kernel_rfl
theorem Rz:(Tryz.prog.make==some Go.Proofs.YtinmplbccmfheaaGreat.Rows.viewOfUptoRow.make)=true:=by kernel_rfl
theorem RA:(Go.Proofs.YtinmplbccmfheaaGreat.Rows.viewOfUptoRow.plainKeys==Tryz.prog.plainKeys)=true:=by kernel_rfl
theorem RB:mapsRowed Tryz.prog=true:=by kernel_rfl
