/- The readings of the functions that ConfigStays reaches beside: each is the function of the program. -/
import Derived.Test.YtegfnefobbgkjaaGreatQt
import Derived.Test.YtegfnefobbgkjaaGreatProg
import Derived.KernelRfl
set_option maxRecDepth 100000
set_option linter.unusedVariables false
namespace Go.Proofs.YtegfnefobbgkjaaGreat
def q90_b0:QC:=(sr [op 25 (bt .lss 24 23)] (.seq (.cond (.t 25) .skip (.exit 0 [1,2])) (.seq (.block 1 (sr [mv 26 24,op 27 (ia 5 22 24),op 28 (lf' 5 27),⟨none,some 4,.new [zu,(.d (.str ⟨#[]⟩)),zu,zi,zs0]⟩,mv 3 26,so' 5 4 28] (.reg (some [[],[0],[],[],[3],[1,0,2,4,3],[5,1,0,2,4,3]]) [op 29 (fa 1 7),op 30 (l1' 29),mv 31 3,op 32 (lf' 5 4),op 33 (kc' 83 [.t 32]),op 34 (ia 5 30 31),so' 5 34 33]))) (.reg none [op 35 (bc .add 24 1),mv 24 35]))))
def q90:QF:=⟨37,[.cell 2 false 8],(sr [op 1 (.box (.t 0)),nw 2 [zu,zu,zi,zi,zs0,zs0,zs0,zs0]] (.seq (.reg (some [[],[0],[1,0],[],[3],[4,3,2,1,0],[],[6],[7,6,5,4,3,2,1,0],[],[9],[10,9,8,7,6,5,4,3,2,1,0],[2,1,0,4,3,7,6,10,9],[12,11,8,5,2,1,0,4,3,7,6,10,9],[13,12,11,8,5,2,1,0,4,3,7,6,10,9],[14,13,12,11,8,5,2,1,0,4,3,7,6,10,9],[15,14,13,12,11,8,5,2,1,0,4,3,7,6,10,9],[16,15,14,13,12,11,8,5,2,1,0,4,3,7,6,10,9],[17,16,15,14,13,12,11,8,5,2,1,0,4,3,7,6,10,9],[18,17,16,15,14,13,12,11,8,5,2,1,0,4,3,7,6,10,9]]) [op 5 (fa 1 4),op 6 (l1' 5),op 7 (kc' 38 [.t 6]),op 8 (fa 1 5),op 9 (l1' 8),op 10 (kc' 39 [.t 9]),op 11 (fa 1 6),op 12 (l1' 11),op 13 (kc' 40 [.t 12]),op 14 (fa 1 7),op 15 (l1' 14),op 16 (kc' 82 [.t 15]),op 17 (fa 1 4),so' 1 17 7,op 18 (fa 1 5),so' 1 18 10,op 19 (fa 1 6),so' 1 19 13,op 20 (fa 1 7),so' 1 20 16]) (.seq (sr [op 21 (fa 1 7),op 22 (l1' 21),op 23 (ln' 22),oc' 24 0] (.block 0 (.loop [1,2,22,23,24] q90_b0))) (sr [op 36 (lf' 8 1),so' 8 2 36] (.ret [2])))))⟩
theorem ok90:QOk Tryz.prog 45 q90:=qok (by kernel_rfl) (by decide +kernel)
def q186:QF:=cloneQ 5 48 [zu,(.d (.str ⟨#[]⟩)),zw,zi,zu]
theorem ok186:QOk Tryz.prog 39 q186:=qok (by kernel_rfl) (by decide +kernel)
def q187:QF:=cloneQ 2 16 [zu,zi]
theorem ok187:QOk Tryz.prog 40 q187:=qok (by kernel_rfl) (by decide +kernel)
def q243:QF:=delQ 5 206 [zu,(.d (.str ⟨#[]⟩)),zw,zi,zu]
theorem ok243:QOk Tryz.prog 134 q243:=qok (by kernel_rfl) (by decide +kernel)
def q245:QF:=anyQ 188
theorem ok245:QOk Tryz.prog 136 q245:=qok (by kernel_rfl) (by decide +kernel)
def q246:QF:=delQ 2 127 [zu,zi]
theorem ok246:QOk Tryz.prog 137 q246:=qok (by kernel_rfl) (by decide +kernel)
end Go.Proofs.YtegfnefobbgkjaaGreat
