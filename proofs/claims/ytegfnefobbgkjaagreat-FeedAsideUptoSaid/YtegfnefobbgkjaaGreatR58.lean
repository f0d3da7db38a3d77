/- Readings of functions of the program, and what they answer. -/
import Derived.Test.YtegfnefobbgkjaaGreatQt
import Derived.Test.YtegfnefobbgkjaaGreatProg
import Derived.KernelRfl
set_option maxRecDepth 100000
set_option linter.unusedVariables false
namespace Go.Proofs.YtegfnefobbgkjaaGreat
def r58:QF:=⟨67,[.cell 4 false 10,.tmp 5],(sr [op 2 (.box (.t 0)),op 3 (.box (.t 1)),nw 4 [zu,zs0,zs0,zs0,zs0,zs0,zs0,zs0,zs0,zs0],oc' 5 0] (.seq (sr [op 7 (lf' 6 2),op 8 (kc' 31 [.t 7]),op 9 (.un .not (.t 8)),mv 10 9,ow 10 11 (lf' 6 3),ow 10 12 (kc' 31 [.t 11]),ow 10 13 (.un .not (.t 12)),op 14 (.pick (.t 10) (.c (.d (.bool true))) (.t 13))] (.cond (.t 14) (sr [op 15 (.build [zu,zs0,zs0,zs0,zs0,zs0,zs0,zs0,zs0,zs0] []),so' 10 4 15,oc' 5 1] (.ret [4,5])) .skip)) (.seq (.reg (some [[],[0],[],[2],[3,2],[1,0,4,3,2],[],[5,1,0,4,3,2,6]]) [op 16 (fa 3 0),op 17 (l1' 16),op 18 (fa 3 1),op 19 (l1' 18),op 20 (kc' 18 [.t 19]),op 21 (.build [zu,zs0,zs0,zs0,zs0,zs0,zs0,zs0,zs0,zs0] [(0,1,(.t 17)),(1,1,(.t 20))]),nw 6 [zu,zs0,zs0,zs0,zs0,zs0,zs0,zs0,zs0,zs0],so' 10 6 21]) (sr [op 23 (fa 2 2),op 24 (l1' 23),op 25 (fa 3 2),op 26 (l1' 25),op 27 (kc' 84 [.t 24,.t 26,(.c (.fn 85 [])),(.c (.fn 86 []))]),mv 22 27,op 28 (.ext (.t 22) 0),op 29 (.ext (.t 22) 1),op 30 (fa 6 2),so' 1 30 28,op 31 (fa 6 6),so' 1 31 29] (sr [op 33 (fa 2 3),op 34 (l1' 33),op 35 (fa 3 3),op 36 (l1' 35),op 37 (kc' 87 [.t 34,.t 36,(.c (.fn 88 [])),(.c (.fn 89 []))]),mv 32 37,op 38 (.ext (.t 32) 0),op 39 (.ext (.t 32) 1),op 40 (fa 6 3),so' 1 40 38,op 41 (fa 6 7),so' 1 41 39] (sr [op 43 (fa 2 4),op 44 (l1' 43),op 45 (fa 3 4),op 46 (l1' 45),op 47 (kc' 90 [.t 44,.t 46,(.c (.fn 91 [])),(.c (.fn 92 []))]),mv 42 47,op 48 (.ext (.t 42) 0),op 49 (.ext (.t 42) 1),op 50 (fa 6 4),so' 1 50 48,op 51 (fa 6 8),so' 1 51 49] (sr [op 53 (fa 2 5),op 54 (l1' 53),op 55 (fa 3 5),op 56 (l1' 55),op 57 (kc' 93 [.t 54,.t 56,(.c (.fn 94 [])),(.c (.fn 37 []))]),mv 52 57,op 58 (.ext (.t 52) 0),op 59 (.ext (.t 52) 1),op 60 (fa 6 5),so' 1 60 58,op 61 (fa 6 9),so' 1 61 59] (sr [op 62 (fa 6 5),op 63 (l1' 62),op 64 (kc' 41 [.t 63]),op 65 (fa 6 5),so' 1 65 64] (sr [op 66 (lf' 10 6),so' 10 4 66,oc' 5 0] (.ret [4,5]))))))))))⟩
theorem okr58:QOk Tryz.prog 42 r58:=qok (by kernel_rfl) (by decide +kernel)
def r177:QF:=partsQ 7 63 161 163 68 [zu,(.d (.str ⟨#[]⟩)),(.d (.str ⟨#[]⟩)),zi,zw,zi,zu]
theorem okr177:QOk Tryz.prog 84 r177:=qok (by kernel_rfl) (by decide +kernel)
def r179:QF:=⟨8,[.tmp 4],(sr [op 2 (.box (.t 0)),op 3 (.box (.t 1)),op 4 (.mov (.c zb))] (sr [op 5 (lf' 7 2),op 6 (lf' 7 3),op 7 (.eq (.agg [(.i .u64),.s,.s,(.i .i64),(.i .u32),(.i .i64),(.i .u64)]) false (.t 5) (.t 6)),mv 4 7] (.ret [4])))⟩
theorem okr179:QOk Tryz.prog 86 r179:=qok (by kernel_rfl) (by decide +kernel)
def r180:QF:=partsQ 5 66 164 166 58 [zu,(.d (.str ⟨#[]⟩)),zw,zi,zu]
theorem okr180:QOk Tryz.prog 87 r180:=qok (by kernel_rfl) (by decide +kernel)
def r182:QF:=⟨8,[.tmp 4],(sr [op 2 (.box (.t 0)),op 3 (.box (.t 1)),op 4 (.mov (.c zb))] (sr [op 5 (lf' 5 2),op 6 (lf' 5 3),op 7 (.eq (.agg [(.i .u64),.s,(.i .u32),(.i .i64),(.i .u64)]) false (.t 5) (.t 6)),mv 4 7] (.ret [4])))⟩
theorem okr182:QOk Tryz.prog 89 r182:=qok (by kernel_rfl) (by decide +kernel)
def r183:QF:=partsQ 2 70 167 169 144 [zu,zi]
theorem okr183:QOk Tryz.prog 90 r183:=qok (by kernel_rfl) (by decide +kernel)
def r185:QF:=⟨8,[.tmp 4],(sr [op 2 (.box (.t 0)),op 3 (.box (.t 1)),op 4 (.mov (.c zb))] (sr [op 5 (lf' 2 2),op 6 (lf' 2 3),op 7 (.eq (.agg [(.i .u64),(.i .i64)]) false (.t 5) (.t 6)),mv 4 7] (.ret [4])))⟩
theorem okr185:QOk Tryz.prog 92 r185:=qok (by kernel_rfl) (by decide +kernel)
def r186:QF:=partsQ 5 73 170 172 150 [zu,(.d (.str ⟨#[]⟩)),zu,zi,zs0]
theorem okr186:QOk Tryz.prog 93 r186:=qok (by kernel_rfl) (by decide +kernel)
def r336:QF:=parcQ 162 68
theorem okr336:QOk Tryz.prog 161 r336:=qok (by kernel_rfl) (by decide +kernel)
def r337:QF:=parsQ 7
theorem okr337:QOk Tryz.prog 162 r337:=qok (by kernel_rfl) (by decide +kernel)
def r338:QF:=vpeQ 7
theorem okr338:QOk Tryz.prog 163 r338:=qok (by kernel_rfl) (by decide +kernel)
def r339:QF:=parcQ 165 58
theorem okr339:QOk Tryz.prog 164 r339:=qok (by kernel_rfl) (by decide +kernel)
def r340:QF:=parsQ 5
theorem okr340:QOk Tryz.prog 165 r340:=qok (by kernel_rfl) (by decide +kernel)
def r341:QF:=vpeQ 5
theorem okr341:QOk Tryz.prog 166 r341:=qok (by kernel_rfl) (by decide +kernel)
def r342:QF:=parcQ 168 144
theorem okr342:QOk Tryz.prog 167 r342:=qok (by kernel_rfl) (by decide +kernel)
def r344:QF:=parsQ 2
theorem okr344:QOk Tryz.prog 168 r344:=qok (by kernel_rfl) (by decide +kernel)
def r345:QF:=vpeQ 2
theorem okr345:QOk Tryz.prog 169 r345:=qok (by kernel_rfl) (by decide +kernel)
def r346:QF:=parcQ 171 150
theorem okr346:QOk Tryz.prog 170 r346:=qok (by kernel_rfl) (by decide +kernel)
def r348:QF:=parsQ 5
theorem okr348:QOk Tryz.prog 171 r348:=qok (by kernel_rfl) (by decide +kernel)
def r349:QF:=vpeQ 5
theorem okr349:QOk Tryz.prog 172 r349:=qok (by kernel_rfl) (by decide +kernel)
end Go.Proofs.YtegfnefobbgkjaaGreat
