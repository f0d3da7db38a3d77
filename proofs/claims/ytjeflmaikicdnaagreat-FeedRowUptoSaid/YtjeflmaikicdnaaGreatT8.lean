/- The table of functions; which of them go by value. -/
import Derived.Test.YtjeflmaikicdnaaGreatSy
import Derived.Test.YtjeflmaikicdnaaGreatF7
import Derived.KernelRfl
set_option maxRecDepth 100000
namespace Go.Proofs.YtjeflmaikicdnaaGreat
def df8:List (Nat×QF):=[(5,q31),(8,q32),(9,q36),(6,q41),(58,q42),(91,q45),(111,q52),(20,q87),(27,q91),(21,q92),(22,q93),(23,q94),(145,HV),(146,Tx),(205,HY),(143,HZ),(50,BX),(118,K9),(194,H5),(195,NT),(54,Ty),(202,Tz),(89,La),(37,T9),(51,BZ),(52,Ca),(53,Cb),(55,Oe),(56,Og),(57,DU),(60,DV),(61,YV),(62,Ua),(63,Ub),(64,Uc),(65,Oh),(67,DW),(68,Ud),(69,Ue),(70,Oi),(72,H8),(73,Uf),(38,Oj),(39,Ol),(40,Om),(41,Oo),(42,Oq),(43,Ot),(44,Ou),(45,Ov),(46,Ow),(47,Ox),(206,Oy),(140,YX),(141,Ug),(193,OA),(156,Le),(197,OB),(152,Ia),(150,Lf),(157,Ib),(161,Ic),(131,xq),(144,Un),(151,OH),(153,Uo),(158,Uq),(162,Ur),(119,OI),(120,OJ),(121,Us),(122,Li),(123,Ut),(124,OL),(125,OM),(126,OO),(127,Uu),(128,Uv),(129,Uw),(130,Cc),(132,Ux),(133,OP),(134,OQ),(135,Y6),(136,Uy),(218,Y7),(219,Uz),(220,Y8),(221,UA),(222,Y9),(223,UB),(268,OX),(227,Ih),(207,OY),(208,Za),(209,UI),(210,O3),(211,Zb),(212,UR),(213,Zc),(214,UT),(215,Zd),(216,UU),(291,Ze),(292,Zf),(293,UV),(275,Zg),(276,Zh),(277,Zi),(278,U2),(279,Zj),(281,Zk),(282,U3),(283,U9),(284,Zl),(285,Va),(286,Vb),(287,Vd),(288,Zm),(289,Ve),(335,Zn),(336,Zo),(337,Zp),(338,Vf),(339,Zq),(340,Lm),(341,Zr),(342,Zt),(344,Zu),(346,Zv),(347,Zw),(348,Vg),(349,Zx),(350,Vh),(365,Zy),(366,Zz),(367,Vi),(368,Pe),(369,ZA),(370,ZB),(371,Vj),(372,ZC),(374,ZE),(375,ZF),(376,ZG),(377,q477),(384,ZH),(385,ZI),(386,Vk),(387,Vl),(388,ZJ),(398,ZK),(399,ZL)]
def TT:FuncId->Option QF:=iW df8
def ah (f:FuncId):Bool:=[5,8,9,6,58,91,111,20,21,22,23,118,54,202,89,37,56,57,60,65,67,70,72,73,38,39,40,41,42,46,140,141,193,197,131,119,120,121,125,126,127,129,132,218,219,220,221,222,223,268,208,209,210,291,292,293,277,278,279,281,282,338,339,340,344,348,368,371,377,387].any λn=>Nat.beq n f
theorem t31:TT 5=some q31:=by kernel_rfl
theorem v31:ah 5=true:=by kernel_rfl
theorem t32:TT 8=some q32:=by kernel_rfl
theorem v32:ah 8=true:=by kernel_rfl
theorem t36:TT 9=some q36:=by kernel_rfl
theorem v36:ah 9=true:=by kernel_rfl
theorem t41:TT 6=some q41:=by kernel_rfl
theorem v41:ah 6=true:=by kernel_rfl
theorem t42:TT 58=some q42:=by kernel_rfl
theorem v42:ah 58=true:=by kernel_rfl
theorem t45:TT 91=some q45:=by kernel_rfl
theorem v45:ah 91=true:=by kernel_rfl
theorem t52:TT 111=some q52:=by kernel_rfl
theorem v52:ah 111=true:=by kernel_rfl
theorem t87:TT 20=some q87:=by kernel_rfl
theorem v87:ah 20=true:=by kernel_rfl
theorem t91:TT 27=some q91:=by kernel_rfl
theorem v91:ah 27=false:=by kernel_rfl
theorem t92:TT 21=some q92:=by kernel_rfl
theorem v92:ah 21=true:=by kernel_rfl
theorem t93:TT 22=some q93:=by kernel_rfl
theorem v93:ah 22=true:=by kernel_rfl
theorem t94:TT 23=some q94:=by kernel_rfl
theorem v94:ah 23=true:=by kernel_rfl
theorem VD:TT 145=some HV:=by kernel_rfl
theorem VL:ah 145=false:=by kernel_rfl
theorem cs6:TT 146=some Tx:=by kernel_rfl
theorem dj7:ah 146=false:=by kernel_rfl
theorem VE:TT 205=some HY:=by kernel_rfl
theorem P6:ah 205=false:=by kernel_rfl
theorem t105:TT 143=some HZ:=by kernel_rfl
theorem v105:ah 143=false:=by kernel_rfl
theorem cs7:TT 50=some BX:=by kernel_rfl
theorem dj8:ah 50=false:=by kernel_rfl
theorem cs8:TT 118=some K9:=by kernel_rfl
theorem dj9:ah 118=true:=by kernel_rfl
theorem t109:TT 194=some H5:=by kernel_rfl
theorem v109:ah 194=false:=by kernel_rfl
theorem cs9:TT 195=some NT:=by kernel_rfl
theorem dk4:ah 195=false:=by kernel_rfl
theorem ct0:TT 54=some Ty:=by kernel_rfl
theorem dk5:ah 54=true:=by kernel_rfl
theorem ct1:TT 202=some Tz:=by kernel_rfl
theorem dk6:ah 202=true:=by kernel_rfl
theorem t117:TT 89=some La:=by kernel_rfl
theorem v117:ah 89=true:=by kernel_rfl
theorem ct2:TT 37=some T9:=by kernel_rfl
theorem dk7:ah 37=true:=by kernel_rfl
theorem ct3:TT 51=some BZ:=by kernel_rfl
theorem dk8:ah 51=false:=by kernel_rfl
theorem ct4:TT 52=some Ca:=by kernel_rfl
theorem dk9:ah 52=false:=by kernel_rfl
theorem ct5:TT 53=some Cb:=by kernel_rfl
theorem dl0:ah 53=false:=by kernel_rfl
theorem ct6:TT 55=some Oe:=by kernel_rfl
theorem dl1:ah 55=false:=by kernel_rfl
theorem ct7:TT 56=some Og:=by kernel_rfl
theorem dl2:ah 56=true:=by kernel_rfl
theorem ct8:TT 57=some DU:=by kernel_rfl
theorem dl3:ah 57=true:=by kernel_rfl
theorem t193:TT 60=some DV:=by kernel_rfl
theorem v193:ah 60=true:=by kernel_rfl
theorem t194:TT 61=some YV:=by kernel_rfl
theorem v194:ah 61=false:=by kernel_rfl
theorem ct9:TT 62=some Ua:=by kernel_rfl
theorem dl4:ah 62=false:=by kernel_rfl
theorem t196:TT 63=some Ub:=by kernel_rfl
theorem v196:ah 63=false:=by kernel_rfl
theorem cu0:TT 64=some Uc:=by kernel_rfl
theorem dl5:ah 64=false:=by kernel_rfl
theorem t198:TT 65=some Oh:=by kernel_rfl
theorem v198:ah 65=true:=by kernel_rfl
theorem cu1:TT 67=some DW:=by kernel_rfl
theorem dl6:ah 67=true:=by kernel_rfl
theorem t201:TT 68=some Ud:=by kernel_rfl
theorem v201:ah 68=false:=by kernel_rfl
theorem cu2:TT 69=some Ue:=by kernel_rfl
theorem dl7:ah 69=false:=by kernel_rfl
theorem t203:TT 70=some Oi:=by kernel_rfl
theorem v203:ah 70=true:=by kernel_rfl
theorem cu3:TT 72=some H8:=by kernel_rfl
theorem dl8:ah 72=true:=by kernel_rfl
theorem t206:TT 73=some Uf:=by kernel_rfl
theorem v206:ah 73=true:=by kernel_rfl
theorem cu4:TT 38=some Oj:=by kernel_rfl
theorem dl9:ah 38=true:=by kernel_rfl
theorem t208:TT 39=some Ol:=by kernel_rfl
theorem v208:ah 39=true:=by kernel_rfl
theorem cu5:TT 40=some Om:=by kernel_rfl
theorem dm0:ah 40=true:=by kernel_rfl
theorem t210:TT 41=some Oo:=by kernel_rfl
theorem v210:ah 41=true:=by kernel_rfl
theorem cu6:TT 42=some Oq:=by kernel_rfl
theorem dm1:ah 42=true:=by kernel_rfl
theorem t212:TT 43=some Ot:=by kernel_rfl
theorem v212:ah 43=false:=by kernel_rfl
theorem t213:TT 44=some Ou:=by kernel_rfl
theorem dm2:ah 44=false:=by kernel_rfl
theorem cu7:TT 45=some Ov:=by kernel_rfl
theorem dm3:ah 45=false:=by kernel_rfl
theorem cu8:TT 46=some Ow:=by kernel_rfl
theorem dm4:ah 46=true:=by kernel_rfl
theorem cu9:TT 47=some Ox:=by kernel_rfl
theorem dm5:ah 47=false:=by kernel_rfl
theorem t229:TT 206=some Oy:=by kernel_rfl
theorem v229:ah 206=false:=by kernel_rfl
theorem cv0:TT 140=some YX:=by kernel_rfl
theorem dm6:ah 140=true:=by kernel_rfl
theorem cv1:TT 141=some Ug:=by kernel_rfl
theorem dm7:ah 141=true:=by kernel_rfl
theorem t232:TT 193=some OA:=by kernel_rfl
theorem v232:ah 193=true:=by kernel_rfl
theorem cv2:TT 156=some Le:=by kernel_rfl
theorem ak9:ah 156=false:=by kernel_rfl
theorem cv3:TT 197=some OB:=by kernel_rfl
theorem dm8:ah 197=true:=by kernel_rfl
theorem cv4:TT 152=some Ia:=by kernel_rfl
theorem dm9:ah 152=false:=by kernel_rfl
theorem cv5:TT 150=some Lf:=by kernel_rfl
theorem dn0:ah 150=false:=by kernel_rfl
theorem cv6:TT 157=some Ib:=by kernel_rfl
theorem dn1:ah 157=false:=by kernel_rfl
theorem cv7:TT 161=some Ic:=by kernel_rfl
theorem dn2:ah 161=false:=by kernel_rfl
theorem cv8:TT 131=some xq:=by kernel_rfl
theorem dn3:ah 131=true:=by kernel_rfl
theorem cv9:TT 144=some Un:=by kernel_rfl
theorem dn4:ah 144=false:=by kernel_rfl
theorem cw0:TT 151=some OH:=by kernel_rfl
theorem al0:ah 151=false:=by kernel_rfl
theorem cw1:TT 153=some Uo:=by kernel_rfl
theorem dn5:ah 153=false:=by kernel_rfl
theorem cw2:TT 158=some Uq:=by kernel_rfl
theorem dn6:ah 158=false:=by kernel_rfl
theorem cw3:TT 162=some Ur:=by kernel_rfl
theorem dn7:ah 162=false:=by kernel_rfl
theorem cw4:TT 119=some OI:=by kernel_rfl
theorem dn8:ah 119=true:=by kernel_rfl
theorem cw5:TT 120=some OJ:=by kernel_rfl
theorem dn9:ah 120=true:=by kernel_rfl
theorem cw6:TT 121=some Us:=by kernel_rfl
theorem do0:ah 121=true:=by kernel_rfl
theorem cw7:TT 122=some Li:=by kernel_rfl
theorem do1:ah 122=false:=by kernel_rfl
theorem cw8:TT 123=some Ut:=by kernel_rfl
theorem al1:ah 123=false:=by kernel_rfl
theorem cw9:TT 124=some OL:=by kernel_rfl
theorem do2:ah 124=false:=by kernel_rfl
theorem cx0:TT 125=some OM:=by kernel_rfl
theorem do3:ah 125=true:=by kernel_rfl
theorem cx1:TT 126=some OO:=by kernel_rfl
theorem do4:ah 126=true:=by kernel_rfl
theorem cx2:TT 127=some Uu:=by kernel_rfl
theorem do5:ah 127=true:=by kernel_rfl
theorem cx3:TT 128=some Uv:=by kernel_rfl
theorem do6:ah 128=false:=by kernel_rfl
theorem cx4:TT 129=some Uw:=by kernel_rfl
theorem do7:ah 129=true:=by kernel_rfl
theorem cx5:TT 130=some Cc:=by kernel_rfl
theorem do8:ah 130=false:=by kernel_rfl
theorem cx6:TT 132=some Ux:=by kernel_rfl
theorem do9:ah 132=true:=by kernel_rfl
theorem cx7:TT 133=some OP:=by kernel_rfl
theorem dp0:ah 133=false:=by kernel_rfl
theorem cx8:TT 134=some OQ:=by kernel_rfl
theorem dp1:ah 134=false:=by kernel_rfl
theorem cx9:TT 135=some Y6:=by kernel_rfl
theorem dp2:ah 135=false:=by kernel_rfl
theorem cy0:TT 136=some Uy:=by kernel_rfl
theorem dp3:ah 136=false:=by kernel_rfl
theorem cy1:TT 218=some Y7:=by kernel_rfl
theorem dp4:ah 218=true:=by kernel_rfl
theorem cy2:TT 219=some Uz:=by kernel_rfl
theorem dp5:ah 219=true:=by kernel_rfl
theorem cy3:TT 220=some Y8:=by kernel_rfl
theorem dp6:ah 220=true:=by kernel_rfl
theorem cy4:TT 221=some UA:=by kernel_rfl
theorem dp7:ah 221=true:=by kernel_rfl
theorem cy5:TT 222=some Y9:=by kernel_rfl
theorem dp8:ah 222=true:=by kernel_rfl
theorem cy6:TT 223=some UB:=by kernel_rfl
theorem dp9:ah 223=true:=by kernel_rfl
theorem cy7:TT 268=some OX:=by kernel_rfl
theorem dq0:ah 268=true:=by kernel_rfl
theorem aj5:TT 227=some Ih:=by kernel_rfl
theorem VM:ah 227=false:=by kernel_rfl
theorem cy8:TT 207=some OY:=by kernel_rfl
theorem al2:ah 207=false:=by kernel_rfl
theorem cy9:TT 208=some Za:=by kernel_rfl
theorem dq1:ah 208=true:=by kernel_rfl
theorem cz0:TT 209=some UI:=by kernel_rfl
theorem dq2:ah 209=true:=by kernel_rfl
theorem cz1:TT 210=some O3:=by kernel_rfl
theorem dq3:ah 210=true:=by kernel_rfl
theorem cz2:TT 211=some Zb:=by kernel_rfl
theorem dq4:ah 211=false:=by kernel_rfl
theorem cz3:TT 212=some UR:=by kernel_rfl
theorem dq5:ah 212=false:=by kernel_rfl
theorem cz4:TT 213=some Zc:=by kernel_rfl
theorem dq6:ah 213=false:=by kernel_rfl
theorem cz5:TT 214=some UT:=by kernel_rfl
theorem dq7:ah 214=false:=by kernel_rfl
theorem cz6:TT 215=some Zd:=by kernel_rfl
theorem dq8:ah 215=false:=by kernel_rfl
theorem cz7:TT 216=some UU:=by kernel_rfl
theorem dq9:ah 216=false:=by kernel_rfl
theorem cz8:TT 291=some Ze:=by kernel_rfl
theorem dr0:ah 291=true:=by kernel_rfl
theorem cz9:TT 292=some Zf:=by kernel_rfl
theorem dr1:ah 292=true:=by kernel_rfl
theorem da0:TT 293=some UV:=by kernel_rfl
theorem dr2:ah 293=true:=by kernel_rfl
theorem da1:TT 275=some Zg:=by kernel_rfl
theorem dr3:ah 275=false:=by kernel_rfl
theorem da2:TT 276=some Zh:=by kernel_rfl
theorem dr4:ah 276=false:=by kernel_rfl
theorem da3:TT 277=some Zi:=by kernel_rfl
theorem dr5:ah 277=true:=by kernel_rfl
theorem da4:TT 278=some U2:=by kernel_rfl
theorem dr6:ah 278=true:=by kernel_rfl
theorem da5:TT 279=some Zj:=by kernel_rfl
theorem dr7:ah 279=true:=by kernel_rfl
theorem da6:TT 281=some Zk:=by kernel_rfl
theorem dr8:ah 281=true:=by kernel_rfl
theorem da7:TT 282=some U3:=by kernel_rfl
theorem dr9:ah 282=true:=by kernel_rfl
theorem da8:TT 283=some U9:=by kernel_rfl
theorem ds4:ah 283=false:=by kernel_rfl
theorem da9:TT 284=some Zl:=by kernel_rfl
theorem ds5:ah 284=false:=by kernel_rfl
theorem db0:TT 285=some Va:=by kernel_rfl
theorem ds6:ah 285=false:=by kernel_rfl
theorem db1:TT 286=some Vb:=by kernel_rfl
theorem ds7:ah 286=false:=by kernel_rfl
theorem db2:TT 287=some Vd:=by kernel_rfl
theorem ds8:ah 287=false:=by kernel_rfl
theorem db3:TT 288=some Zm:=by kernel_rfl
theorem ds9:ah 288=false:=by kernel_rfl
theorem db4:TT 289=some Ve:=by kernel_rfl
theorem dt0:ah 289=false:=by kernel_rfl
theorem db5:TT 335=some Zn:=by kernel_rfl
theorem dt1:ah 335=false:=by kernel_rfl
theorem db6:TT 336=some Zo:=by kernel_rfl
theorem dt2:ah 336=false:=by kernel_rfl
theorem db7:TT 337=some Zp:=by kernel_rfl
theorem dt3:ah 337=false:=by kernel_rfl
theorem db8:TT 338=some Vf:=by kernel_rfl
theorem dt4:ah 338=true:=by kernel_rfl
theorem db9:TT 339=some Zq:=by kernel_rfl
theorem dt5:ah 339=true:=by kernel_rfl
theorem dc0:TT 340=some Lm:=by kernel_rfl
theorem dt6:ah 340=true:=by kernel_rfl
theorem dc1:TT 341=some Zr:=by kernel_rfl
theorem dt7:ah 341=false:=by kernel_rfl
theorem dc2:TT 342=some Zt:=by kernel_rfl
theorem dt8:ah 342=false:=by kernel_rfl
theorem dc3:TT 344=some Zu:=by kernel_rfl
theorem dt9:ah 344=true:=by kernel_rfl
theorem dc4:TT 346=some Zv:=by kernel_rfl
theorem du0:ah 346=false:=by kernel_rfl
theorem dc5:TT 347=some Zw:=by kernel_rfl
theorem du1:ah 347=false:=by kernel_rfl
theorem dc6:TT 348=some Vg:=by kernel_rfl
theorem du2:ah 348=true:=by kernel_rfl
theorem dc7:TT 349=some Zx:=by kernel_rfl
theorem du3:ah 349=false:=by kernel_rfl
theorem dc8:TT 350=some Vh:=by kernel_rfl
theorem du4:ah 350=false:=by kernel_rfl
theorem dc9:TT 365=some Zy:=by kernel_rfl
theorem du5:ah 365=false:=by kernel_rfl
theorem dd0:TT 366=some Zz:=by kernel_rfl
theorem du6:ah 366=false:=by kernel_rfl
theorem dd2:TT 367=some Vi:=by kernel_rfl
theorem du7:ah 367=false:=by kernel_rfl
theorem dd3:TT 368=some Pe:=by kernel_rfl
theorem du8:ah 368=true:=by kernel_rfl
theorem dd4:TT 369=some ZA:=by kernel_rfl
theorem du9:ah 369=false:=by kernel_rfl
theorem dd5:TT 370=some ZB:=by kernel_rfl
theorem dv0:ah 370=false:=by kernel_rfl
theorem dd6:TT 371=some Vj:=by kernel_rfl
theorem dv1:ah 371=true:=by kernel_rfl
theorem dd7:TT 372=some ZC:=by kernel_rfl
theorem dv2:ah 372=false:=by kernel_rfl
theorem dd8:TT 374=some ZE:=by kernel_rfl
theorem dv3:ah 374=false:=by kernel_rfl
theorem dd9:TT 375=some ZF:=by kernel_rfl
theorem dv4:ah 375=false:=by kernel_rfl
theorem de0:TT 376=some ZG:=by kernel_rfl
theorem dv5:ah 376=false:=by kernel_rfl
theorem de1:TT 377=some q477:=by kernel_rfl
theorem dv6:ah 377=true:=by kernel_rfl
theorem de2:TT 384=some ZH:=by kernel_rfl
theorem dv7:ah 384=false:=by kernel_rfl
theorem de3:TT 385=some ZI:=by kernel_rfl
theorem dv8:ah 385=false:=by kernel_rfl
theorem de4:TT 386=some Vk:=by kernel_rfl
theorem dv9:ah 386=false:=by kernel_rfl
theorem de5:TT 387=some Vl:=by kernel_rfl
theorem dw0:ah 387=true:=by kernel_rfl
theorem de6:TT 388=some ZJ:=by kernel_rfl
theorem dw1:ah 388=false:=by kernel_rfl
theorem de7:TT 398=some ZK:=by kernel_rfl
theorem dw2:ah 398=false:=by kernel_rfl
theorem de8:TT 399=some ZL:=by kernel_rfl
theorem dw3:ah 399=false:=by kernel_rfl
theorem jY:kz Tryz.prog TT:=eu (oks (by kernel_rfl) (by decide +kernel))
