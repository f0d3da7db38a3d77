/- Closed facts of the program that every row asks for, one by one: together they are too much for one check. -/
import Derived.Test.YtmakbdpnlfmclaaGreatRows
import Derived.ProofKit
import Derived.JoinedCond
set_option linter.unusedVariables false
set_option maxRecDepth 100000
namespace Go.Proofs.YtmakbdpnlfmclaaGreat
theorem laidOut:laidOutB Tryz.prog=true:=by kernel_rfl
theorem Tn:Tryz.prog.mayEnter=true:=by kernel_rfl
theorem Tp:Tryz.prog.stopsHeard=true:=by kernel_rfl
theorem Tq:(Go.Proofs.YtmakbdpnlfmclaaGreat.Rows.feedEndsUptoRow.lifted==Tryz.prog.liftsFinal)=true:=by kernel_rfl
theorem Tt:(Tryz.prog.make==some Go.Proofs.YtmakbdpnlfmclaaGreat.Rows.feedEndsUptoRow.make)=true:=by kernel_rfl
theorem Tu:(Go.Proofs.YtmakbdpnlfmclaaGreat.Rows.feedEndsUptoRow.plainKeys==Tryz.prog.plainKeys)=true:=by kernel_rfl
theorem Tv:mapsRowed Tryz.prog=true:=by kernel_rfl
