/- The table of functions; which of them go by value. -/
import Derived.Test.YtjkfknafpgfchaaGreatF8
import Derived.Test.YtjkfknafpgfchaaGreatF7
import Derived.Test.YtjkfknafpgfchaaGreatF6
import Derived.Test.YtjkfknafpgfchaaGreatGd
import Derived.KernelRfl
set_option maxRecDepth 100000
namespace Go.Proofs.YtjkfknafpgfchaaGreat
def bm1:List (Nat × QF):=[(12,q31),(4,q70),(61,q87),(115,Ld),(69,D9),(161,Lp),(32,Ih),(33,Ae),(35,Ii),(36,Ij),(37,Ik),(195,Uu),(196,LF),(169,Il),(175,Im),(125,qM),(325,Iz),(199,IA),(34,IB),(131,IC),(132,UE),(133,LW),(265,UF),(266,LY),(267,UG),(268,L6),(269,UH),(270,L9),(208,IE),(200,UL),(201,Md),(130,IK),(209,UM),(210,Mm),(211,UN),(212,Mq),(213,UO),(214,Mt),(351,UQ),(352,UR),(353,Mv),(271,UU),(272,UV),(273,UW),(274,Mw),(275,UX),(277,UY),(278,Mx),(279,MH),(280,UZ),(281,MJ),(282,MK),(283,ML),(284,U0),(285,MN),(354,U1),(355,U2),(356,U3),(357,MP),(358,U4),(359,Ed),(360,U5),(361,U6),(363,U7),(365,U8),(366,U9),(367,MQ),(368,Va),(369,MS),(389,Vb),(390,Vd),(391,MV),(392,IQ),(393,Ve),(394,Vf),(395,MW),(396,Vg),(398,Vh),(399,Vi),(400,Vj),(401,q477),(410,Vk),(411,Vl),(412,M4),(413,M5),(414,Vm),(424,Vn),(429,Vo)]
def TT:FuncId -> Option QF:=jk bm1
def ak (f:FuncId):Bool:=[12,4,61,115,69,161,36,195,196,169,175,125,325,199,265,266,267,268,269,270,208,200,201,130,351,352,353,273,274,275,277,278,357,358,359,363,367,392,395,401,413].any fun n=>Nat.beq n f
theorem t31:TT 12 = some q31:=by kernel_rfl
theorem v31:ak 12 = true:=by kernel_rfl
theorem t70:TT 4 = some q70:=by kernel_rfl
theorem v70:ak 4 = true:=by kernel_rfl
theorem t87:TT 61 = some q87:=by kernel_rfl
theorem v87:ak 61 = true:=by kernel_rfl
theorem db5:TT 115 = some Ld:=by kernel_rfl
theorem dn1:ak 115 = true:=by kernel_rfl
theorem t117:TT 69 = some D9:=by kernel_rfl
theorem v117:ak 69 = true:=by kernel_rfl
theorem db6:TT 161 = some Lp:=by kernel_rfl
theorem dn2:ak 161 = true:=by kernel_rfl
theorem t212:TT 32 = some Ih:=by kernel_rfl
theorem v212:ak 32 = false:=by kernel_rfl
theorem t213:TT 33 = some Ae:=by kernel_rfl
theorem VZ:ak 33 = false:=by kernel_rfl
theorem db7:TT 35 = some Ii:=by kernel_rfl
theorem dn3:ak 35 = false:=by kernel_rfl
theorem db8:TT 36 = some Ij:=by kernel_rfl
theorem dn4:ak 36 = true:=by kernel_rfl
theorem db9:TT 37 = some Ik:=by kernel_rfl
theorem dn5:ak 37 = false:=by kernel_rfl
theorem dc0:TT 195 = some Uu:=by kernel_rfl
theorem dn6:ak 195 = true:=by kernel_rfl
theorem dc1:TT 196 = some LF:=by kernel_rfl
theorem dn7:ak 196 = true:=by kernel_rfl
theorem t232:TT 169 = some Il:=by kernel_rfl
theorem v232:ak 169 = true:=by kernel_rfl
theorem dc2:TT 175 = some Im:=by kernel_rfl
theorem dn8:ak 175 = true:=by kernel_rfl
theorem bl6:TT 125 = some qM:=by kernel_rfl
theorem bm4:ak 125 = true:=by kernel_rfl
theorem dc3:TT 325 = some Iz:=by kernel_rfl
theorem dn9:ak 325 = true:=by kernel_rfl
theorem dc4:TT 199 = some IA:=by kernel_rfl
theorem do0:ak 199 = true:=by kernel_rfl
theorem dc5:TT 34 = some IB:=by kernel_rfl
theorem do1:ak 34 = false:=by kernel_rfl
theorem dc6:TT 131 = some IC:=by kernel_rfl
theorem do2:ak 131 = false:=by kernel_rfl
theorem dc7:TT 132 = some UE:=by kernel_rfl
theorem do3:ak 132 = false:=by kernel_rfl
theorem dc8:TT 133 = some LW:=by kernel_rfl
theorem do4:ak 133 = false:=by kernel_rfl
theorem dc9:TT 265 = some UF:=by kernel_rfl
theorem do5:ak 265 = true:=by kernel_rfl
theorem dd0:TT 266 = some LY:=by kernel_rfl
theorem do6:ak 266 = true:=by kernel_rfl
theorem dd2:TT 267 = some UG:=by kernel_rfl
theorem do7:ak 267 = true:=by kernel_rfl
theorem dd3:TT 268 = some L6:=by kernel_rfl
theorem do8:ak 268 = true:=by kernel_rfl
theorem dd4:TT 269 = some UH:=by kernel_rfl
theorem do9:ak 269 = true:=by kernel_rfl
theorem dd5:TT 270 = some L9:=by kernel_rfl
theorem dp0:ak 270 = true:=by kernel_rfl
theorem dd6:TT 208 = some IE:=by kernel_rfl
theorem dp1:ak 208 = true:=by kernel_rfl
theorem dd7:TT 200 = some UL:=by kernel_rfl
theorem dp2:ak 200 = true:=by kernel_rfl
theorem dd8:TT 201 = some Md:=by kernel_rfl
theorem dp3:ak 201 = true:=by kernel_rfl
theorem dd9:TT 130 = some IK:=by kernel_rfl
theorem dp4:ak 130 = true:=by kernel_rfl
theorem de0:TT 209 = some UM:=by kernel_rfl
theorem dp5:ak 209 = false:=by kernel_rfl
theorem de1:TT 210 = some Mm:=by kernel_rfl
theorem dp6:ak 210 = false:=by kernel_rfl
theorem de2:TT 211 = some UN:=by kernel_rfl
theorem dp7:ak 211 = false:=by kernel_rfl
theorem de3:TT 212 = some Mq:=by kernel_rfl
theorem dp8:ak 212 = false:=by kernel_rfl
theorem de4:TT 213 = some UO:=by kernel_rfl
theorem dp9:ak 213 = false:=by kernel_rfl
theorem de5:TT 214 = some Mt:=by kernel_rfl
theorem dq0:ak 214 = false:=by kernel_rfl
theorem de6:TT 351 = some UQ:=by kernel_rfl
theorem dq1:ak 351 = true:=by kernel_rfl
theorem de7:TT 352 = some UR:=by kernel_rfl
theorem dq2:ak 352 = true:=by kernel_rfl
theorem de8:TT 353 = some Mv:=by kernel_rfl
theorem dq3:ak 353 = true:=by kernel_rfl
theorem de9:TT 271 = some UU:=by kernel_rfl
theorem dq4:ak 271 = false:=by kernel_rfl
theorem df0:TT 272 = some UV:=by kernel_rfl
theorem dq5:ak 272 = false:=by kernel_rfl
theorem df1:TT 273 = some UW:=by kernel_rfl
theorem dq6:ak 273 = true:=by kernel_rfl
theorem df3:TT 274 = some Mw:=by kernel_rfl
theorem dq7:ak 274 = true:=by kernel_rfl
theorem df4:TT 275 = some UX:=by kernel_rfl
theorem dq8:ak 275 = true:=by kernel_rfl
theorem df5:TT 277 = some UY:=by kernel_rfl
theorem dq9:ak 277 = true:=by kernel_rfl
theorem df6:TT 278 = some Mx:=by kernel_rfl
theorem dr0:ak 278 = true:=by kernel_rfl
theorem df7:TT 279 = some MH:=by kernel_rfl
theorem dr1:ak 279 = false:=by kernel_rfl
theorem df8:TT 280 = some UZ:=by kernel_rfl
theorem dr2:ak 280 = false:=by kernel_rfl
theorem df9:TT 281 = some MJ:=by kernel_rfl
theorem dr3:ak 281 = false:=by kernel_rfl
theorem dg0:TT 282 = some MK:=by kernel_rfl
theorem dr4:ak 282 = false:=by kernel_rfl
theorem dg1:TT 283 = some ML:=by kernel_rfl
theorem dr5:ak 283 = false:=by kernel_rfl
theorem dg2:TT 284 = some U0:=by kernel_rfl
theorem dr6:ak 284 = false:=by kernel_rfl
theorem dg3:TT 285 = some MN:=by kernel_rfl
theorem dr7:ak 285 = false:=by kernel_rfl
theorem dg4:TT 354 = some U1:=by kernel_rfl
theorem dr8:ak 354 = false:=by kernel_rfl
theorem dg5:TT 355 = some U2:=by kernel_rfl
theorem dr9:ak 355 = false:=by kernel_rfl
theorem dg6:TT 356 = some U3:=by kernel_rfl
theorem ds4:ak 356 = false:=by kernel_rfl
theorem dg7:TT 357 = some MP:=by kernel_rfl
theorem ds5:ak 357 = true:=by kernel_rfl
theorem dg8:TT 358 = some U4:=by kernel_rfl
theorem ds6:ak 358 = true:=by kernel_rfl
theorem dg9:TT 359 = some Ed:=by kernel_rfl
theorem ds7:ak 359 = true:=by kernel_rfl
theorem dh0:TT 360 = some U5:=by kernel_rfl
theorem ds8:ak 360 = false:=by kernel_rfl
theorem dh1:TT 361 = some U6:=by kernel_rfl
theorem ds9:ak 361 = false:=by kernel_rfl
theorem dh2:TT 363 = some U7:=by kernel_rfl
theorem dt0:ak 363 = true:=by kernel_rfl
theorem dh3:TT 365 = some U8:=by kernel_rfl
theorem dt1:ak 365 = false:=by kernel_rfl
theorem dh4:TT 366 = some U9:=by kernel_rfl
theorem dt2:ak 366 = false:=by kernel_rfl
theorem dh5:TT 367 = some MQ:=by kernel_rfl
theorem dt3:ak 367 = true:=by kernel_rfl
theorem dh6:TT 368 = some Va:=by kernel_rfl
theorem dt4:ak 368 = false:=by kernel_rfl
theorem dh7:TT 369 = some MS:=by kernel_rfl
theorem dt5:ak 369 = false:=by kernel_rfl
theorem dh8:TT 389 = some Vb:=by kernel_rfl
theorem dt6:ak 389 = false:=by kernel_rfl
theorem dh9:TT 390 = some Vd:=by kernel_rfl
theorem dt7:ak 390 = false:=by kernel_rfl
theorem di0:TT 391 = some MV:=by kernel_rfl
theorem dt8:ak 391 = false:=by kernel_rfl
theorem di1:TT 392 = some IQ:=by kernel_rfl
theorem dt9:ak 392 = true:=by kernel_rfl
theorem di2:TT 393 = some Ve:=by kernel_rfl
theorem du0:ak 393 = false:=by kernel_rfl
theorem di3:TT 394 = some Vf:=by kernel_rfl
theorem du1:ak 394 = false:=by kernel_rfl
theorem di4:TT 395 = some MW:=by kernel_rfl
theorem du2:ak 395 = true:=by kernel_rfl
theorem di5:TT 396 = some Vg:=by kernel_rfl
theorem du3:ak 396 = false:=by kernel_rfl
theorem di6:TT 398 = some Vh:=by kernel_rfl
theorem du4:ak 398 = false:=by kernel_rfl
theorem di7:TT 399 = some Vi:=by kernel_rfl
theorem du5:ak 399 = false:=by kernel_rfl
theorem di8:TT 400 = some Vj:=by kernel_rfl
theorem du6:ak 400 = false:=by kernel_rfl
theorem di9:TT 401 = some q477:=by kernel_rfl
theorem du7:ak 401 = true:=by kernel_rfl
theorem dj0:TT 410 = some Vk:=by kernel_rfl
theorem du8:ak 410 = false:=by kernel_rfl
theorem dj1:TT 411 = some Vl:=by kernel_rfl
theorem du9:ak 411 = false:=by kernel_rfl
theorem dj2:TT 412 = some M4:=by kernel_rfl
theorem dv0:ak 412 = false:=by kernel_rfl
theorem dj3:TT 413 = some M5:=by kernel_rfl
theorem dv1:ak 413 = true:=by kernel_rfl
theorem dj4:TT 414 = some Vm:=by kernel_rfl
theorem dv2:ak 414 = false:=by kernel_rfl
theorem dj5:TT 424 = some Vn:=by kernel_rfl
theorem dv3:ak 424 = false:=by kernel_rfl
theorem dj6:TT 429 = some Vo:=by kernel_rfl
theorem dv4:ak 429 = false:=by kernel_rfl
theorem wh:kN Tryz.prog TT:=eT (by
 simp only [bm1,List.mem_cons,List.not_mem_nil,or_false];rintro p (rfl | rfl | rfl | rfl | rfl | rfl | rfl | rfl | rfl | rfl | rfl | rfl | rfl | rfl | rfl | rfl | rfl | rfl | rfl | rfl | rfl | rfl | rfl | rfl | rfl | rfl | rfl | rfl | rfl | rfl | rfl | rfl | rfl | rfl | rfl | rfl | rfl | rfl | rfl | rfl | rfl | rfl | rfl | rfl | rfl | rfl | rfl | rfl | rfl | rfl | rfl | rfl | rfl | rfl | rfl | rfl | rfl | rfl | rfl | rfl | rfl | rfl | rfl | rfl | rfl | rfl | rfl | rfl | rfl | rfl | rfl | rfl | rfl | rfl | rfl | rfl | rfl | rfl | rfl | rfl | rfl | rfl | rfl | rfl | rfl | rfl | rfl | rfl)
 · exact cw6
 · exact cx3
 · exact cx9
 · exact YF
 · exact Om
 · exact Ze
 · exact Oq
 · exact Ot
 · exact Ou
 · exact Zw
 · exact Ov
 · exact Zy
 · exact Zz
 · exact Ow
 · exact Ox
 · exact ZL
 · exact OH
 · exact OI
 · exact OJ
 · exact OL
 · exact aa7
 · exact aa8
 · exact aa9
 · exact ab0
 · exact ab1
 · exact ab2
 · exact ab3
 · exact ab4
 · exact OM
 · exact ab7
 · exact ab8
 · exact OT
 · exact ad4
 · exact ad5
 · exact ad6
 · exact ad7
 · exact ad8
 · exact ad9
 · exact ae0
 · exact ae1
 · exact OU
 · exact ae3
 · exact ae4
 · exact ae5
 · exact ae6
 · exact ae7
 · exact ae9
 · exact af0
 · exact af5
 · exact af6
 · exact af7
 · exact af8
 · exact af9
 · exact ag0
 · exact ag1
 · exact ag2
 · exact ag3
 · exact ag4
 · exact ag5
 · exact ag6
 · exact ag7
 · exact ag8
 · exact ag9
 · exact ah0
 · exact ah2
 · exact ah3
 · exact ah4
 · exact ah5
 · exact ah6
 · exact ah7
 · exact ah8
 · exact ah9
 · exact ai0
 · exact ai1
 · exact ai2
 · exact ai3
 · exact ai4
 · exact ai5
 · exact ai6
 · exact ai7
 · exact ai8
 · exact ai9
 · exact aj0
 · exact aj1
 · exact aj2
 · exact aj3
 · exact aj4
 · exact aj5)
end Go.Proofs.YtjkfknafpgfchaaGreat
