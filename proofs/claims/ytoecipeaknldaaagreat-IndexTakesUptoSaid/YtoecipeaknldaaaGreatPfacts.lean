/- Closed facts of the program that every row asks for, one by one: together they are too much for one check. -/
import Derived.Test.YtoecipeaknldaaaGreatRows
import Derived.ProofKit
import Derived.JoinedCond
set_option linter.unusedVariables false
set_option maxRecDepth 100000
namespace Go.Proofs.YtoecipeaknldaaaGreat
theorem laidOut:laidOutB Tryz.prog=true:=by kernel_rfl
theorem Nf:Tryz.prog.mayEnter=true:=by kernel_rfl
theorem Ng:Tryz.prog.stopsHeard=true:=by kernel_rfl
theorem Nh:(Go.Proofs.YtoecipeaknldaaaGreat.Rows.indexTakesUptoRow.lifted==Tryz.prog.liftsFinal)=true:=by kernel_rfl
theorem Ni:(Tryz.prog.make==some Go.Proofs.YtoecipeaknldaaaGreat.Rows.indexTakesUptoRow.make)=true:=by kernel_rfl
theorem Nj:(Go.Proofs.YtoecipeaknldaaaGreat.Rows.indexTakesUptoRow.plainKeys==Tryz.prog.plainKeys)=true:=by kernel_rfl
theorem Nk:mapsRowed Tryz.prog=true:=by kernel_rfl
