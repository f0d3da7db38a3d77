/- The table of functions; which of them go by value. -/
import Derived.Test.YtinmplbccmfheaaGreatF7
import Derived.KernelRfl
set_option maxRecDepth 100000
namespace Go.Proofs.YtinmplbccmfheaaGreat
def bu0:List (Nat×QF):=[(55,q29),(4,q31),(18,q41),(24,q45),(94,q48),(45,q52),(52,q53),(98,q86),(14,q87),(66,q92),(67,q93),(68,q94),(61,Ng),(69,Nh),(75,Kn),(76,Ni),(77,Nj),(49,RL),(134,RN),(73,xY),(90,RP),(22,Ko),(51,RS),(135,Nz),(136,NA),(56,R3),(70,NB),(71,NC),(72,ND),(139,NE),(142,NF),(145,R4),(149,NG),(150,R5),(154,R6),(101,NH),(102,NI),(103,NJ),(104,NK),(105,NL),(106,NM),(107,NN),(108,NP),(109,NQ),(110,NR),(113,NS),(111,AJ),(112,Si),(74,NT),(78,NU),(80,NV),(168,yc),(199,Sk),(156,NZ),(157,N7),(158,Sn),(159,Kv),(160,Sq),(161,N8),(162,N9),(163,Oa),(164,Sr),(165,Su),(166,Sv),(167,CU),(169,Sw),(170,Ob),(171,Oc),(172,YW),(173,Sy),(174,YX),(175,SG),(176,YY),(177,SH),(178,YZ),(179,SI),(124,Oj),(125,Ol),(207,SY),(208,Y0),(209,S9),(210,Ot),(211,Y1),(212,Ta),(213,Y2),(214,Tc),(215,Y3),(216,Td),(217,Y4),(218,Y5),(219,Te),(228,Y6),(229,Y7),(230,Y8),(231,Tn),(232,Y9),(234,Za),(235,Tp),(236,Tt),(237,Zb),(238,Tu),(239,Tv),(240,Tw),(241,Zc),(242,Tx),(272,Zd),(273,Ze),(274,Zf),(275,Ty),(276,Zg),(277,KC),(278,Zh),(279,Zi),(281,Zj),(283,Zk),(284,Zl),(285,Tz),(286,Zm),(287,TA),(307,Zn),(308,Zo),(309,TB),(310,OC),(311,Zp),(312,Zq),(313,TC),(314,Zr),(316,Zt),(317,Zu),(318,Zv),(319,q477),(327,Zw),(328,Zx),(329,TE),(330,TG),(331,Zy),(341,Zz),(343,ZA)]
def TT:FuncId->Option QF:=kN bu0
def au (f:FuncId):Bool:=[55,4,18,24,94,45,52,98,14,66,67,68,75,49,134,73,90,22,51,135,136,56,139,142,149,154,101,102,103,104,105,109,111,112,74,80,168,156,157,158,162,163,164,166,169,174,175,176,177,178,179,124,208,209,210,217,218,219,230,231,232,234,235,275,276,277,281,285,310,313,319,330].any λn=>Nat.beq n f
theorem t29:TT 55=some q29:=by kernel_rfl
theorem v29:au 55=true:=by kernel_rfl
theorem t31:TT 4=some q31:=by kernel_rfl
theorem v31:au 4=true:=by kernel_rfl
theorem t41:TT 18=some q41:=by kernel_rfl
theorem v41:au 18=true:=by kernel_rfl
theorem t45:TT 24=some q45:=by kernel_rfl
theorem v45:au 24=true:=by kernel_rfl
theorem t48:TT 94=some q48:=by kernel_rfl
theorem v48:au 94=true:=by kernel_rfl
theorem t52:TT 45=some q52:=by kernel_rfl
theorem v52:au 45=true:=by kernel_rfl
theorem t53:TT 52=some q53:=by kernel_rfl
theorem v53:au 52=true:=by kernel_rfl
theorem t86:TT 98=some q86:=by kernel_rfl
theorem v86:au 98=true:=by kernel_rfl
theorem t87:TT 14=some q87:=by kernel_rfl
theorem v87:au 14=true:=by kernel_rfl
theorem t92:TT 66=some q92:=by kernel_rfl
theorem v92:au 66=true:=by kernel_rfl
theorem t93:TT 67=some q93:=by kernel_rfl
theorem v93:au 67=true:=by kernel_rfl
theorem t94:TT 68=some q94:=by kernel_rfl
theorem v94:au 68=true:=by kernel_rfl
theorem ZM:TT 61=some Ng:=by kernel_rfl
theorem aa3:au 61=false:=by kernel_rfl
theorem ZN:TT 69=some Nh:=by kernel_rfl
theorem aa4:au 69=false:=by kernel_rfl
theorem bh6:TT 75=some Kn:=by kernel_rfl
theorem by5:au 75=true:=by kernel_rfl
theorem t109:TT 76=some Ni:=by kernel_rfl
theorem v109:au 76=false:=by kernel_rfl
theorem bh7:TT 77=some Nj:=by kernel_rfl
theorem by6:au 77=false:=by kernel_rfl
theorem bh8:TT 49=some RL:=by kernel_rfl
theorem by7:au 49=true:=by kernel_rfl
theorem bh9:TT 134=some RN:=by kernel_rfl
theorem by8:au 134=true:=by kernel_rfl
theorem ES:TT 73=some xY:=by kernel_rfl
theorem E5:au 73=true:=by kernel_rfl
theorem bi0:TT 90=some RP:=by kernel_rfl
theorem by9:au 90=true:=by kernel_rfl
theorem t117:TT 22=some Ko:=by kernel_rfl
theorem v117:au 22=true:=by kernel_rfl
theorem bi1:TT 51=some RS:=by kernel_rfl
theorem bz0:au 51=true:=by kernel_rfl
theorem t183:TT 135=some Nz:=by kernel_rfl
theorem v183:au 135=true:=by kernel_rfl
theorem bi2:TT 136=some NA:=by kernel_rfl
theorem bz1:au 136=true:=by kernel_rfl
theorem bi3:TT 56=some R3:=by kernel_rfl
theorem bz2:au 56=true:=by kernel_rfl
theorem ZO:TT 70=some NB:=by kernel_rfl
theorem aa5:au 70=false:=by kernel_rfl
theorem ZP:TT 71=some NC:=by kernel_rfl
theorem aa6:au 71=false:=by kernel_rfl
theorem ZQ:TT 72=some ND:=by kernel_rfl
theorem aa7:au 72=false:=by kernel_rfl
theorem bi4:TT 139=some NE:=by kernel_rfl
theorem bz3:au 139=true:=by kernel_rfl
theorem t193:TT 142=some NF:=by kernel_rfl
theorem v193:au 142=true:=by kernel_rfl
theorem t196:TT 145=some R4:=by kernel_rfl
theorem v196:au 145=false:=by kernel_rfl
theorem bi5:TT 149=some NG:=by kernel_rfl
theorem bz4:au 149=true:=by kernel_rfl
theorem t201:TT 150=some R5:=by kernel_rfl
theorem v201:au 150=false:=by kernel_rfl
theorem bi6:TT 154=some R6:=by kernel_rfl
theorem bz5:au 154=true:=by kernel_rfl
theorem bi7:TT 101=some NH:=by kernel_rfl
theorem bz6:au 101=true:=by kernel_rfl
theorem t208:TT 102=some NI:=by kernel_rfl
theorem v208:au 102=true:=by kernel_rfl
theorem bi8:TT 103=some NJ:=by kernel_rfl
theorem bz7:au 103=true:=by kernel_rfl
theorem t210:TT 104=some NK:=by kernel_rfl
theorem v210:au 104=true:=by kernel_rfl
theorem bi9:TT 105=some NL:=by kernel_rfl
theorem bz8:au 105=true:=by kernel_rfl
theorem t212:TT 106=some NM:=by kernel_rfl
theorem v212:au 106=false:=by kernel_rfl
theorem t213:TT 107=some NN:=by kernel_rfl
theorem bz9:au 107=false:=by kernel_rfl
theorem bj0:TT 108=some NP:=by kernel_rfl
theorem ca0:au 108=false:=by kernel_rfl
theorem bj1:TT 109=some NQ:=by kernel_rfl
theorem ca1:au 109=true:=by kernel_rfl
theorem bj2:TT 110=some NR:=by kernel_rfl
theorem ca2:au 110=false:=by kernel_rfl
theorem t229:TT 113=some NS:=by kernel_rfl
theorem v229:au 113=false:=by kernel_rfl
theorem Dk:TT 111=some AJ:=by kernel_rfl
theorem Dp:au 111=true:=by kernel_rfl
theorem bj3:TT 112=some Si:=by kernel_rfl
theorem ca3:au 112=true:=by kernel_rfl
theorem t232:TT 74=some NT:=by kernel_rfl
theorem v232:au 74=true:=by kernel_rfl
theorem bj4:TT 78=some NU:=by kernel_rfl
theorem ca4:au 78=false:=by kernel_rfl
theorem bj5:TT 80=some NV:=by kernel_rfl
theorem ca5:au 80=true:=by kernel_rfl
theorem bj6:TT 168=some yc:=by kernel_rfl
theorem ca6:au 168=true:=by kernel_rfl
theorem bj7:TT 199=some Sk:=by kernel_rfl
theorem ca7:au 199=false:=by kernel_rfl
theorem bj8:TT 156=some NZ:=by kernel_rfl
theorem ca9:au 156=true:=by kernel_rfl
theorem bj9:TT 157=some N7:=by kernel_rfl
theorem cb0:au 157=true:=by kernel_rfl
theorem bk0:TT 158=some Sn:=by kernel_rfl
theorem cb1:au 158=true:=by kernel_rfl
theorem bk3:TT 159=some Kv:=by kernel_rfl
theorem cb2:au 159=false:=by kernel_rfl
theorem bk4:TT 160=some Sq:=by kernel_rfl
theorem aa8:au 160=false:=by kernel_rfl
theorem bk5:TT 161=some N8:=by kernel_rfl
theorem cb3:au 161=false:=by kernel_rfl
theorem bk6:TT 162=some N9:=by kernel_rfl
theorem cb4:au 162=true:=by kernel_rfl
theorem bk7:TT 163=some Oa:=by kernel_rfl
theorem cb5:au 163=true:=by kernel_rfl
theorem bk8:TT 164=some Sr:=by kernel_rfl
theorem cb6:au 164=true:=by kernel_rfl
theorem bk9:TT 165=some Su:=by kernel_rfl
theorem cb7:au 165=false:=by kernel_rfl
theorem bl0:TT 166=some Sv:=by kernel_rfl
theorem cb8:au 166=true:=by kernel_rfl
theorem bl1:TT 167=some CU:=by kernel_rfl
theorem cb9:au 167=false:=by kernel_rfl
theorem bl2:TT 169=some Sw:=by kernel_rfl
theorem cc0:au 169=true:=by kernel_rfl
theorem bl3:TT 170=some Ob:=by kernel_rfl
theorem cc1:au 170=false:=by kernel_rfl
theorem bl4:TT 171=some Oc:=by kernel_rfl
theorem cc2:au 171=false:=by kernel_rfl
theorem bl5:TT 172=some YW:=by kernel_rfl
theorem cc3:au 172=false:=by kernel_rfl
theorem bl6:TT 173=some Sy:=by kernel_rfl
theorem cc4:au 173=false:=by kernel_rfl
theorem bl7:TT 174=some YX:=by kernel_rfl
theorem cc5:au 174=true:=by kernel_rfl
theorem bl8:TT 175=some SG:=by kernel_rfl
theorem cc6:au 175=true:=by kernel_rfl
theorem bl9:TT 176=some YY:=by kernel_rfl
theorem cc7:au 176=true:=by kernel_rfl
theorem bm0:TT 177=some SH:=by kernel_rfl
theorem cc8:au 177=true:=by kernel_rfl
theorem bm1:TT 178=some YZ:=by kernel_rfl
theorem cc9:au 178=true:=by kernel_rfl
theorem bm2:TT 179=some SI:=by kernel_rfl
theorem cd0:au 179=true:=by kernel_rfl
theorem bm3:TT 124=some Oj:=by kernel_rfl
theorem cd1:au 124=true:=by kernel_rfl
theorem bm4:TT 125=some Ol:=by kernel_rfl
theorem cd2:au 125=false:=by kernel_rfl
theorem bm5:TT 207=some SY:=by kernel_rfl
theorem aa9:au 207=false:=by kernel_rfl
theorem bm6:TT 208=some Y0:=by kernel_rfl
theorem cd3:au 208=true:=by kernel_rfl
theorem bm7:TT 209=some S9:=by kernel_rfl
theorem cd4:au 209=true:=by kernel_rfl
theorem bm8:TT 210=some Ot:=by kernel_rfl
theorem cd5:au 210=true:=by kernel_rfl
theorem bm9:TT 211=some Y1:=by kernel_rfl
theorem cd6:au 211=false:=by kernel_rfl
theorem bn0:TT 212=some Ta:=by kernel_rfl
theorem cd7:au 212=false:=by kernel_rfl
theorem bn1:TT 213=some Y2:=by kernel_rfl
theorem cd8:au 213=false:=by kernel_rfl
theorem bn2:TT 214=some Tc:=by kernel_rfl
theorem cd9:au 214=false:=by kernel_rfl
theorem bn3:TT 215=some Y3:=by kernel_rfl
theorem ce0:au 215=false:=by kernel_rfl
theorem bn4:TT 216=some Td:=by kernel_rfl
theorem ce1:au 216=false:=by kernel_rfl
theorem bn5:TT 217=some Y4:=by kernel_rfl
theorem ce2:au 217=true:=by kernel_rfl
theorem bn6:TT 218=some Y5:=by kernel_rfl
theorem ce3:au 218=true:=by kernel_rfl
theorem bn7:TT 219=some Te:=by kernel_rfl
theorem ce4:au 219=true:=by kernel_rfl
theorem bn8:TT 228=some Y6:=by kernel_rfl
theorem ce5:au 228=false:=by kernel_rfl
theorem bn9:TT 229=some Y7:=by kernel_rfl
theorem ce6:au 229=false:=by kernel_rfl
theorem bo0:TT 230=some Y8:=by kernel_rfl
theorem ce7:au 230=true:=by kernel_rfl
theorem bo1:TT 231=some Tn:=by kernel_rfl
theorem ce8:au 231=true:=by kernel_rfl
theorem bo2:TT 232=some Y9:=by kernel_rfl
theorem ce9:au 232=true:=by kernel_rfl
theorem bo3:TT 234=some Za:=by kernel_rfl
theorem cf0:au 234=true:=by kernel_rfl
theorem bo4:TT 235=some Tp:=by kernel_rfl
theorem cf1:au 235=true:=by kernel_rfl
theorem bo5:TT 236=some Tt:=by kernel_rfl
theorem cf2:au 236=false:=by kernel_rfl
theorem bo6:TT 237=some Zb:=by kernel_rfl
theorem cf3:au 237=false:=by kernel_rfl
theorem bo7:TT 238=some Tu:=by kernel_rfl
theorem cf4:au 238=false:=by kernel_rfl
theorem bo8:TT 239=some Tv:=by kernel_rfl
theorem cf5:au 239=false:=by kernel_rfl
theorem bo9:TT 240=some Tw:=by kernel_rfl
theorem cf6:au 240=false:=by kernel_rfl
theorem bp0:TT 241=some Zc:=by kernel_rfl
theorem cf7:au 241=false:=by kernel_rfl
theorem bp1:TT 242=some Tx:=by kernel_rfl
theorem cf8:au 242=false:=by kernel_rfl
theorem bp2:TT 272=some Zd:=by kernel_rfl
theorem cf9:au 272=false:=by kernel_rfl
theorem bp3:TT 273=some Ze:=by kernel_rfl
theorem cg0:au 273=false:=by kernel_rfl
theorem bp4:TT 274=some Zf:=by kernel_rfl
theorem cg1:au 274=false:=by kernel_rfl
theorem bp5:TT 275=some Ty:=by kernel_rfl
theorem cg2:au 275=true:=by kernel_rfl
theorem bp6:TT 276=some Zg:=by kernel_rfl
theorem cg3:au 276=true:=by kernel_rfl
theorem bp7:TT 277=some KC:=by kernel_rfl
theorem cg5:au 277=true:=by kernel_rfl
theorem bp8:TT 278=some Zh:=by kernel_rfl
theorem cg6:au 278=false:=by kernel_rfl
theorem bp9:TT 279=some Zi:=by kernel_rfl
theorem cg7:au 279=false:=by kernel_rfl
theorem bq0:TT 281=some Zj:=by kernel_rfl
theorem cg8:au 281=true:=by kernel_rfl
theorem bq1:TT 283=some Zk:=by kernel_rfl
theorem cg9:au 283=false:=by kernel_rfl
theorem bq2:TT 284=some Zl:=by kernel_rfl
theorem ch0:au 284=false:=by kernel_rfl
theorem bq3:TT 285=some Tz:=by kernel_rfl
theorem ch1:au 285=true:=by kernel_rfl
theorem bq4:TT 286=some Zm:=by kernel_rfl
theorem ch2:au 286=false:=by kernel_rfl
theorem bq5:TT 287=some TA:=by kernel_rfl
theorem ch3:au 287=false:=by kernel_rfl
theorem bq6:TT 307=some Zn:=by kernel_rfl
theorem ch4:au 307=false:=by kernel_rfl
theorem bq7:TT 308=some Zo:=by kernel_rfl
theorem ch5:au 308=false:=by kernel_rfl
theorem bq8:TT 309=some TB:=by kernel_rfl
theorem ch6:au 309=false:=by kernel_rfl
theorem bq9:TT 310=some OC:=by kernel_rfl
theorem ch7:au 310=true:=by kernel_rfl
theorem br0:TT 311=some Zp:=by kernel_rfl
theorem ch8:au 311=false:=by kernel_rfl
theorem br1:TT 312=some Zq:=by kernel_rfl
theorem ch9:au 312=false:=by kernel_rfl
theorem br2:TT 313=some TC:=by kernel_rfl
theorem ci0:au 313=true:=by kernel_rfl
theorem br3:TT 314=some Zr:=by kernel_rfl
theorem ci1:au 314=false:=by kernel_rfl
theorem br4:TT 316=some Zt:=by kernel_rfl
theorem ci2:au 316=false:=by kernel_rfl
theorem br5:TT 317=some Zu:=by kernel_rfl
theorem ci3:au 317=false:=by kernel_rfl
theorem br6:TT 318=some Zv:=by kernel_rfl
theorem ci4:au 318=false:=by kernel_rfl
theorem br7:TT 319=some q477:=by kernel_rfl
theorem ci5:au 319=true:=by kernel_rfl
theorem br8:TT 327=some Zw:=by kernel_rfl
theorem ci6:au 327=false:=by kernel_rfl
theorem br9:TT 328=some Zx:=by kernel_rfl
theorem ci7:au 328=false:=by kernel_rfl
theorem bs9:TT 329=some TE:=by kernel_rfl
theorem ci8:au 329=false:=by kernel_rfl
theorem bt0:TT 330=some TG:=by kernel_rfl
theorem ci9:au 330=true:=by kernel_rfl
theorem bt1:TT 331=some Zy:=by kernel_rfl
theorem cj0:au 331=false:=by kernel_rfl
theorem bt2:TT 341=some Zz:=by kernel_rfl
theorem cj1:au 341=false:=by kernel_rfl
theorem bt3:TT 343=some ZA:=by kernel_rfl
theorem cj3:au 343=false:=by kernel_rfl
theorem wW:mO Tryz.prog TT:=gq (oks (by kernel_rfl) (by decide +kernel))
