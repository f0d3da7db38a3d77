/- Tables of functions. -/
import Derived.Test.YthkeklemhcfbcaaGreatQl
set_option linter.unusedVariables false
namespace Go.Proofs.YthkeklemhcfbcaaGreat
def QOk (P:Program) (f:FuncId) (q:QF):Prop:=∃ rf,rfOf P f = some rf /\ rf.quiet = q.toRF /\ q.fits = true
theorem qok {P:Program} {f:FuncId} {q:QF} (h:(rfOf P f).map RF.quiet = some q.toRF) (hf:q.fits = true):QOk P f q:=by
 simp only [Option.map_eq_some_iff] at h
 obtain ⟨rf,h1,h2⟩:=h
 exact ⟨rf,h1,h2,hf⟩
def lookT:List (Nat × QF) -> Nat -> Option QF
 | [],_=>none
 | (k,q) :: l,n=>match Nat.beq k n with
  | true=>some q
  | false=>lookT l n
theorem lookT_ok {P:Program}:∀ {l:List (Nat × QF)},(∀ p ∈ l,QOk P p.1 p.2) -> TabA P (lookT l)
 | [],_=>fun f q h=>by simp [lookT] at h
 | (k,q0) :: l,hl=>fun f q h=>by
  simp only [lookT] at h
  split at h
  · rename_i hk
    have:=Nat.eq_of_beq_eq_true hk
    subst this
    cases h
    exact hl (k,q0) (by simp)
  · exact lookT_ok (fun p hp=>hl p (List.mem_cons_of_mem _ hp)) f q h
end Go.Proofs.YthkeklemhcfbcaaGreat
namespace Go.Proofs.YthkeklemhcfbcaaGreat
@[simp] def op (n:Nat) (r:R):RO:=⟨none,some n,r⟩
@[simp] def mv (n i:Nat):RO:=⟨none,some n,.mov (.t i)⟩
@[simp] def ot (g n:Nat) (r:R):RO:=⟨some (g,true),some n,r⟩
@[simp] def ow (g n:Nat) (r:R):RO:=⟨some (g,false),some n,r⟩
@[simp] def ci (n:Int):X:=.c (.d (.int .i64 n))
def cloneQ (z b:Nat) (zero:List V):QF:=⟨8,[.tmp 2],(.seq (.reg none [op 2 (.mov (.c (.d (.slice true []))))]) (.seq (.seq (.reg none [mv 3 0,op 4 (.eq .sl false (.t 3) (.c (.d (.slice true []))))]) (.cond (.t 4) (.seq (.reg none [op 2 (.mov (.c (.d (.slice true []))))]) (.ret [2])) .skip)) (.seq (.reg none [op 5 (.buildS z 0 zero []),mv 6 0,op 7 (.app z b (.t 5) (.t 6)),mv 2 7]) (.ret [2]))))⟩
def cmpB0 (kd:IntKind):QC:=(.seq (.seq (.reg none [mv 29 5,mv 30 4,op 31 (.len false (.t 30)),op 32 (.bin .lss (.t 29) (.t 31))]) (.cond (.t 32) .skip (.exit 2 [0,3]))) (.seq (.block 3 (.seq (.reg none [mv 35 4,mv 36 5,op 37 (.idxA none 1 (.t 35) (.t 36)),op 38 (.load true 1 (.t 37)),mv 39 4,mv 40 5,op 41 (.bin .sub (.t 40) (ci 1)),op 42 (.idxA none 1 (.t 39) (.t 41)),op 43 (.load true 1 (.t 42)),op 44 (.eq (.sc (.i kd)) true (.t 38) (.t 43))]) (.cond (.t 44) (.seq (.reg none [mv 45 0,mv 46 3,mv 47 4,mv 48 5,op 49 (.idxA none 1 (.t 47) (.t 48)),op 50 (.load true 1 (.t 49)),op 51 (.idxA none 1 (.t 45) (.t 46)),⟨none,none,.store 1 (.t 51) (.t 50)⟩]) (.reg none [mv 52 3,op 53 (.bin .add (.t 52) (ci 1)),mv 3 53])) .skip))) (.reg none [mv 33 5,op 34 (.bin .add (.t 33) (ci 1)),mv 5 34])))
def cmpB1 (kd:IntKind):QC:=(.seq (.seq (.reg none [mv 10 3,mv 11 0,op 12 (.len false (.t 11)),op 13 (.bin .lss (.t 10) (.t 12))]) (.cond (.t 13) .skip (.exit 0 [0]))) (.seq (.block 1 (.seq (.reg none [mv 16 0,mv 17 3,op 18 (.idxA none 1 (.t 16) (.t 17)),op 19 (.load true 1 (.t 18)),mv 20 0,mv 21 3,op 22 (.bin .sub (.t 21) (ci 1)),op 23 (.idxA none 1 (.t 20) (.t 22)),op 24 (.load true 1 (.t 23)),op 25 (.eq (.sc (.i kd)) false (.t 19) (.t 24))]) (.cond (.t 25) (.seq (.reg none [mv 26 0,mv 27 3,op 28 (.slc .sl 1 (.t 26) (some (.t 27)) none none),mv 4 28]) (.seq (.seq (.reg none [op 5 (.mov (ci 1))]) (.block 2 (.loop [0,3,4,5] (cmpB0 kd)))) (.seq (.reg none [mv 54 0,mv 55 3,op 56 (.slc .sl 1 (.t 54) (some (.t 55)) none none),⟨none,none,.clear 1 [(.d (.int kd 0))] (.t 56)⟩]) (.seq (.reg none [mv 57 0,mv 58 3,op 59 (.slc .sl 1 (.t 57) none (some (.t 58)) none),mv 2 59]) (.ret [2]))))) .skip))) (.reg none [mv 14 3,op 15 (.bin .add (.t 14) (ci 1)),mv 3 15])))
def cmpQ (kd:IntKind):QF:=⟨61,[.tmp 2],(.seq (.reg none [op 2 (.mov (.c (.d (.slice true []))))]) (.seq (.seq (.reg none [mv 6 0,op 7 (.len false (.t 6)),op 8 (.bin .lss (.t 7) (ci 2))]) (.cond (.t 8) (.seq (.reg none [mv 9 0,mv 2 9]) (.ret [2])) .skip)) (.seq (.seq (.reg none [op 3 (.mov (ci 1))]) (.block 0 (.loop [0,3] (cmpB1 kd)))) (.seq (.reg none [mv 60 0,mv 2 60]) (.ret [2])))))⟩
def eqfB (z:Nat) (zero:List V):QC:=(.seq (.reg none [op 18 (.bin .lss (.t 17) (.t 16))]) (.seq (.cond (.t 18) .skip (.exit 0 [])) (.seq (.block 1 (.seq (.reg none [mv 19 17,op 20 (.idxA none z (.t 15) (.t 17)),op 21 (.load false z (.t 20)),op 8 (.new zero),mv 7 19,⟨none,none,.store z (.t 8) (.t 21)⟩]) (.seq (.reg none [mv 22 1,mv 23 7,op 24 (.idxA none z (.t 22) (.t 23)),op 25 (.load false z (.t 24)),op 9 (.new zero),⟨none,none,.store z (.t 9) (.t 25)⟩]) (.seq (.reg none [mv 26 2,op 27 (.load false z (.t 8)),op 28 (.load false z (.t 9)),op 29 (.call (.t 26) [.t 27,.t 28]),op 30 (.un .not (.t 29))]) (.cond (.t 30) (.seq (.reg none [op 6 (.mov (.c (.d (.bool false))))]) (.ret [6])) .skip))))) (.reg none [op 31 (.bin .add (.t 17) (ci 1)),mv 17 31]))))
def eqfQ (z:Nat) (zero:List V):QF:=⟨32,[.tmp 6],(.seq (.reg none [op 6 (.mov (.c (.d (.bool false))))]) (.seq (.seq (.reg none [mv 10 0,op 11 (.len false (.t 10)),mv 12 1,op 13 (.len false (.t 12)),op 14 (.eq (.sc (.i .i64)) true (.t 11) (.t 13))]) (.cond (.t 14) (.seq (.reg none [op 6 (.mov (.c (.d (.bool false))))]) (.ret [6])) .skip)) (.seq (.seq (.reg none [mv 15 0,op 16 (.len false (.t 15)),op 17 (.mov (ci 0))]) (.block 0 (.loop [1,2,15,16,17] (eqfB z zero)))) (.seq (.reg none [op 6 (.mov (.c (.d (.bool true))))]) (.ret [6])))))⟩
def eql1B (k:EQ):QC:=(.seq (.reg none [op 14 (.bin .lss (.t 13) (.t 12))]) (.seq (.cond (.t 14) .skip (.exit 0 [])) (.seq (.block 1 (.seq (.reg none [mv 15 13,mv 5 15]) (.seq (.reg none [mv 16 0,mv 17 5,op 18 (.idxA none 1 (.t 16) (.t 17)),op 19 (.load true 1 (.t 18)),mv 20 1,mv 21 5,op 22 (.idxA none 1 (.t 20) (.t 21)),op 23 (.load true 1 (.t 22)),op 24 (.eq k true (.t 19) (.t 23))]) (.cond (.t 24) (.seq (.reg none [op 4 (.mov (.c (.d (.bool false))))]) (.ret [4])) .skip)))) (.reg none [op 25 (.bin .add (.t 13) (ci 1)),mv 13 25]))))
def eql1Q (k:EQ):QF:=⟨26,[.tmp 4],(.seq (.reg none [op 4 (.mov (.c (.d (.bool false))))]) (.seq (.seq (.reg none [mv 6 0,op 7 (.len false (.t 6)),mv 8 1,op 9 (.len false (.t 8)),op 10 (.eq (.sc (.i .i64)) true (.t 7) (.t 9))]) (.cond (.t 10) (.seq (.reg none [op 4 (.mov (.c (.d (.bool false))))]) (.ret [4])) .skip)) (.seq (.seq (.reg none [mv 11 0,op 12 (.len false (.t 11)),op 13 (.mov (ci 0))]) (.block 0 (.loop [0,1,12,13] (eql1B k)))) (.seq (.reg none [op 4 (.mov (.c (.d (.bool true))))]) (.ret [4])))))⟩
def eqlB (z:Nat) (k:EQ):QC:=(.seq (.reg none [op 14 (.bin .lss (.t 13) (.t 12))]) (.seq (.cond (.t 14) .skip (.exit 0 [])) (.seq (.block 1 (.seq (.reg none [mv 15 13,mv 5 15]) (.seq (.reg none [mv 16 0,mv 17 5,op 18 (.idxA none z (.t 16) (.t 17)),op 19 (.load false z (.t 18)),mv 20 1,mv 21 5,op 22 (.idxA none z (.t 20) (.t 21)),op 23 (.load false z (.t 22)),op 24 (.eq k true (.t 19) (.t 23))]) (.cond (.t 24) (.seq (.reg none [op 4 (.mov (.c (.d (.bool false))))]) (.ret [4])) .skip)))) (.reg none [op 25 (.bin .add (.t 13) (ci 1)),mv 13 25]))))
def eqlQ (z:Nat) (k:EQ):QF:=⟨26,[.tmp 4],(.seq (.reg none [op 4 (.mov (.c (.d (.bool false))))]) (.seq (.seq (.reg none [mv 6 0,op 7 (.len false (.t 6)),mv 8 1,op 9 (.len false (.t 8)),op 10 (.eq (.sc (.i .i64)) true (.t 7) (.t 9))]) (.cond (.t 10) (.seq (.reg none [op 4 (.mov (.c (.d (.bool false))))]) (.ret [4])) .skip)) (.seq (.seq (.reg none [mv 11 0,op 12 (.len false (.t 11)),op 13 (.mov (ci 0))]) (.block 0 (.loop [0,1,12,13] (eqlB z k)))) (.seq (.reg none [op 4 (.mov (.c (.d (.bool true))))]) (.ret [4])))))⟩
def takeQ (Z:D):QF:=⟨42,[.tmp 4],(.seq (.reg none [op 4 (.mov (.c (.d Z)))]) (.seq (.seq (.reg none [mv 6 0,op 7 (.eq .ptr false (.t 6) (.c (.d .nilp))),mv 8 7,ow 8 9 (.mov (.t 0)),ow 8 10 (.nilchk (.t 9)),ow 8 11 (.fldA (.t 10) 1),ow 8 12 (.load true 1 (.t 11)),op 13 (.pick (.t 8) (.c (.d (.bool true))) (.t 12))]) (.cond (.t 13) (.seq (.reg none [mv 14 4,mv 4 14]) (.ret [4])) .skip)) (.seq (.reg none [mv 16 1,mv 17 0,op 18 (.nilchk (.t 17)),op 19 (.fldA (.t 18) 0),op 20 (.load true 1 (.t 19)),op 21 (.call (.t 16) [.t 20]),mv 15 21,op 22 (.ext (.t 15) 0),op 23 (.ext (.t 15) 1),mv 4 22,mv 5 23]) (.seq (.seq (.reg none [mv 24 5,op 25 (.bin .lss (.t 24) (ci 0))]) (.cond (.t 25) (.seq (.reg none [mv 26 0,op 27 (.nilchk (.t 26)),op 28 (.fldA (.t 27) 1),⟨none,none,.store 1 (.t 28) (.c (.d (.bool true)))⟩]) (.seq (.reg none [op 29 (.new [(.d Z)]),op 30 (.nilchk (.t 29)),op 31 (.load true 1 (.t 30)),mv 4 31]) (.ret [4]))) .skip)) (.seq (.reg none [mv 32 0,mv 33 0,op 34 (.nilchk (.t 33)),op 35 (.fldA (.t 34) 0),op 36 (.load true 1 (.t 35)),mv 37 5,op 38 (.slc .sl 1 (.t 36) (some (.t 37)) none none),op 39 (.nilchk (.t 32)),op 40 (.fldA (.t 39) 0),⟨none,none,.store 1 (.t 40) (.t 38)⟩]) (.seq (.reg none [mv 41 4,mv 4 41]) (.ret [4])))))))⟩
end Go.Proofs.YthkeklemhcfbcaaGreat
