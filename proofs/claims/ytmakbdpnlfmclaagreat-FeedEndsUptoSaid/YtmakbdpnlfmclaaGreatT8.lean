/- The table of functions; which of them go by value. -/
import Derived.Test.YtmakbdpnlfmclaaGreatF7
import Derived.Test.YtmakbdpnlfmclaaGreatGd
import Derived.KernelRfl
set_option maxRecDepth 100000
namespace Go.Proofs.YtmakbdpnlfmclaaGreat
def dg7:List (Nat×QF):=[(227,q29),(5,q31),(10,q32),(11,q36),(6,q41),(92,q42),(39,q45),(59,q52),(287,q86),(21,q87),(32,q91),(22,q92),(23,q93),(24,q94),(167,G6),(168,Tx),(200,G7),(125,G8),(84,BF),(119,KQ),(120,G9),(121,NG),(88,Ty),(134,Tz),(37,KR),(340,NU),(341,NV),(69,T9),(85,BG),(86,BH),(87,BI),(89,NW),(90,NY),(91,Dn),(94,Dp),(95,YN),(96,Ua),(97,Ub),(98,Uc),(99,NZ),(101,Dq),(102,Ud),(103,Ue),(104,N7),(106,He),(107,Uf),(70,N8),(71,N9),(72,Oa),(73,Ob),(74,Oc),(75,Od),(76,Oe),(77,Og),(78,Oh),(79,Oi),(201,Oj),(163,YP),(164,Ug),(118,Om),(122,KV),(124,Oo),(127,Hg),(129,KW),(130,Hl),(132,Hm),(152,wN),(166,Un),(172,Ow),(173,Uo),(176,Uq),(179,Ur),(140,Ox),(141,Oy),(142,Us),(143,KY),(144,Ut),(145,Oz),(146,OA),(147,OB),(148,Uu),(149,Uv),(150,Uw),(151,BJ),(153,Ux),(154,OC),(155,OD),(156,YY),(157,Uy),(247,YZ),(248,Uz),(249,Y0),(250,UA),(251,Y1),(252,UB),(212,OJ),(213,Hr),(229,OL),(230,Y2),(231,UI),(232,OQ),(233,Y3),(234,UR),(235,Y4),(236,UT),(237,Y5),(238,UU),(304,Y6),(305,Y7),(306,UV),(289,Y8),(290,Y9),(291,Za),(292,U2),(293,Zb),(295,Zc),(296,U3),(297,U5),(298,Zd),(299,U6),(300,U7),(301,U8),(302,Ze),(303,U9),(342,Zf),(343,Zg),(344,Zh),(345,Va),(346,Zi),(347,K5),(348,Zj),(349,Zk),(351,Zl),(353,Zm),(354,Zn),(355,Vb),(356,Zo),(357,Vd),(370,Zp),(371,Zq),(372,Ve),(373,O1),(374,Zr),(375,Zt),(376,Vf),(377,Zu),(379,Zv),(380,Zw),(381,Zx),(382,q477),(387,Zy),(388,Zz),(389,Vg),(390,Vh),(391,ZA),(401,ZB),(402,ZC)]
def TT:FuncId->Option QF:=gM dg7
def ah (f:FuncId):Bool:=[227,5,10,11,6,92,39,59,287,21,22,23,24,119,88,134,37,340,341,69,90,91,94,99,101,104,106,107,70,71,72,73,74,78,163,164,118,124,152,140,141,142,146,147,148,150,153,247,248,249,250,251,252,212,230,231,232,304,305,306,291,292,293,295,296,345,346,347,351,355,373,376,382,390].any λn=>Nat.beq n f
theorem t29:TT 227=some q29:=by kernel_rfl
theorem v29:ah 227=true:=by kernel_rfl
theorem t31:TT 5=some q31:=by kernel_rfl
theorem v31:ah 5=true:=by kernel_rfl
theorem t32:TT 10=some q32:=by kernel_rfl
theorem v32:ah 10=true:=by kernel_rfl
theorem t36:TT 11=some q36:=by kernel_rfl
theorem v36:ah 11=true:=by kernel_rfl
theorem t41:TT 6=some q41:=by kernel_rfl
theorem v41:ah 6=true:=by kernel_rfl
theorem t42:TT 92=some q42:=by kernel_rfl
theorem v42:ah 92=true:=by kernel_rfl
theorem t45:TT 39=some q45:=by kernel_rfl
theorem v45:ah 39=true:=by kernel_rfl
theorem t52:TT 59=some q52:=by kernel_rfl
theorem v52:ah 59=true:=by kernel_rfl
theorem t86:TT 287=some q86:=by kernel_rfl
theorem v86:ah 287=true:=by kernel_rfl
theorem t87:TT 21=some q87:=by kernel_rfl
theorem v87:ah 21=true:=by kernel_rfl
theorem t91:TT 32=some q91:=by kernel_rfl
theorem v91:ah 32=false:=by kernel_rfl
theorem t92:TT 22=some q92:=by kernel_rfl
theorem v92:ah 22=true:=by kernel_rfl
theorem t93:TT 23=some q93:=by kernel_rfl
theorem v93:ah 23=true:=by kernel_rfl
theorem t94:TT 24=some q94:=by kernel_rfl
theorem v94:ah 24=true:=by kernel_rfl
theorem Vv:TT 167=some G6:=by kernel_rfl
theorem VD:ah 167=false:=by kernel_rfl
theorem ct4:TT 168=some Tx:=by kernel_rfl
theorem dl1:ah 168=false:=by kernel_rfl
theorem Vx:TT 200=some G7:=by kernel_rfl
theorem PO:ah 200=false:=by kernel_rfl
theorem t105:TT 125=some G8:=by kernel_rfl
theorem v105:ah 125=false:=by kernel_rfl
theorem ct5:TT 84=some BF:=by kernel_rfl
theorem dl2:ah 84=false:=by kernel_rfl
theorem ct6:TT 119=some KQ:=by kernel_rfl
theorem dl3:ah 119=true:=by kernel_rfl
theorem t109:TT 120=some G9:=by kernel_rfl
theorem v109:ah 120=false:=by kernel_rfl
theorem ct7:TT 121=some NG:=by kernel_rfl
theorem dl4:ah 121=false:=by kernel_rfl
theorem ct8:TT 88=some Ty:=by kernel_rfl
theorem dl5:ah 88=true:=by kernel_rfl
theorem ct9:TT 134=some Tz:=by kernel_rfl
theorem dl6:ah 134=true:=by kernel_rfl
theorem t117:TT 37=some KR:=by kernel_rfl
theorem v117:ah 37=true:=by kernel_rfl
theorem t183:TT 340=some NU:=by kernel_rfl
theorem v183:ah 340=true:=by kernel_rfl
theorem cu0:TT 341=some NV:=by kernel_rfl
theorem dl7:ah 341=true:=by kernel_rfl
theorem cu1:TT 69=some T9:=by kernel_rfl
theorem dl8:ah 69=true:=by kernel_rfl
theorem cu2:TT 85=some BG:=by kernel_rfl
theorem dl9:ah 85=false:=by kernel_rfl
theorem cu3:TT 86=some BH:=by kernel_rfl
theorem dm0:ah 86=false:=by kernel_rfl
theorem cu4:TT 87=some BI:=by kernel_rfl
theorem dm1:ah 87=false:=by kernel_rfl
theorem cu5:TT 89=some NW:=by kernel_rfl
theorem dm2:ah 89=false:=by kernel_rfl
theorem cu6:TT 90=some NY:=by kernel_rfl
theorem dm3:ah 90=true:=by kernel_rfl
theorem cu7:TT 91=some Dn:=by kernel_rfl
theorem dm4:ah 91=true:=by kernel_rfl
theorem t193:TT 94=some Dp:=by kernel_rfl
theorem v193:ah 94=true:=by kernel_rfl
theorem t194:TT 95=some YN:=by kernel_rfl
theorem v194:ah 95=false:=by kernel_rfl
theorem cu8:TT 96=some Ua:=by kernel_rfl
theorem dm5:ah 96=false:=by kernel_rfl
theorem t196:TT 97=some Ub:=by kernel_rfl
theorem v196:ah 97=false:=by kernel_rfl
theorem cu9:TT 98=some Uc:=by kernel_rfl
theorem dm6:ah 98=false:=by kernel_rfl
theorem t198:TT 99=some NZ:=by kernel_rfl
theorem v198:ah 99=true:=by kernel_rfl
theorem cv0:TT 101=some Dq:=by kernel_rfl
theorem dm7:ah 101=true:=by kernel_rfl
theorem t201:TT 102=some Ud:=by kernel_rfl
theorem v201:ah 102=false:=by kernel_rfl
theorem cv1:TT 103=some Ue:=by kernel_rfl
theorem dm8:ah 103=false:=by kernel_rfl
theorem t203:TT 104=some N7:=by kernel_rfl
theorem v203:ah 104=true:=by kernel_rfl
theorem cv2:TT 106=some He:=by kernel_rfl
theorem dm9:ah 106=true:=by kernel_rfl
theorem t206:TT 107=some Uf:=by kernel_rfl
theorem v206:ah 107=true:=by kernel_rfl
theorem cv3:TT 70=some N8:=by kernel_rfl
theorem dn0:ah 70=true:=by kernel_rfl
theorem t208:TT 71=some N9:=by kernel_rfl
theorem v208:ah 71=true:=by kernel_rfl
theorem cv4:TT 72=some Oa:=by kernel_rfl
theorem dn1:ah 72=true:=by kernel_rfl
theorem t210:TT 73=some Ob:=by kernel_rfl
theorem v210:ah 73=true:=by kernel_rfl
theorem cv5:TT 74=some Oc:=by kernel_rfl
theorem dn2:ah 74=true:=by kernel_rfl
theorem t212:TT 75=some Od:=by kernel_rfl
theorem v212:ah 75=false:=by kernel_rfl
theorem t213:TT 76=some Oe:=by kernel_rfl
theorem dn3:ah 76=false:=by kernel_rfl
theorem cv6:TT 77=some Og:=by kernel_rfl
theorem dn4:ah 77=false:=by kernel_rfl
theorem cv7:TT 78=some Oh:=by kernel_rfl
theorem dn5:ah 78=true:=by kernel_rfl
theorem cv8:TT 79=some Oi:=by kernel_rfl
theorem dn6:ah 79=false:=by kernel_rfl
theorem t229:TT 201=some Oj:=by kernel_rfl
theorem v229:ah 201=false:=by kernel_rfl
theorem cv9:TT 163=some YP:=by kernel_rfl
theorem dn7:ah 163=true:=by kernel_rfl
theorem cw0:TT 164=some Ug:=by kernel_rfl
theorem dn8:ah 164=true:=by kernel_rfl
theorem t232:TT 118=some Om:=by kernel_rfl
theorem v232:ah 118=true:=by kernel_rfl
theorem cw1:TT 122=some KV:=by kernel_rfl
theorem ak4:ah 122=false:=by kernel_rfl
theorem cw2:TT 124=some Oo:=by kernel_rfl
theorem dn9:ah 124=true:=by kernel_rfl
theorem cw3:TT 127=some Hg:=by kernel_rfl
theorem do0:ah 127=false:=by kernel_rfl
theorem cw4:TT 129=some KW:=by kernel_rfl
theorem do1:ah 129=false:=by kernel_rfl
theorem cw5:TT 130=some Hl:=by kernel_rfl
theorem do2:ah 130=false:=by kernel_rfl
theorem cw6:TT 132=some Hm:=by kernel_rfl
theorem do3:ah 132=false:=by kernel_rfl
theorem cw7:TT 152=some wN:=by kernel_rfl
theorem do4:ah 152=true:=by kernel_rfl
theorem cw8:TT 166=some Un:=by kernel_rfl
theorem do5:ah 166=false:=by kernel_rfl
theorem cw9:TT 172=some Ow:=by kernel_rfl
theorem ak5:ah 172=false:=by kernel_rfl
theorem cx0:TT 173=some Uo:=by kernel_rfl
theorem do6:ah 173=false:=by kernel_rfl
theorem cx1:TT 176=some Uq:=by kernel_rfl
theorem do7:ah 176=false:=by kernel_rfl
theorem cx2:TT 179=some Ur:=by kernel_rfl
theorem do8:ah 179=false:=by kernel_rfl
theorem cx3:TT 140=some Ox:=by kernel_rfl
theorem do9:ah 140=true:=by kernel_rfl
theorem cx4:TT 141=some Oy:=by kernel_rfl
theorem dp0:ah 141=true:=by kernel_rfl
theorem cx5:TT 142=some Us:=by kernel_rfl
theorem dp1:ah 142=true:=by kernel_rfl
theorem cx6:TT 143=some KY:=by kernel_rfl
theorem dp2:ah 143=false:=by kernel_rfl
theorem cx7:TT 144=some Ut:=by kernel_rfl
theorem ak6:ah 144=false:=by kernel_rfl
theorem cx8:TT 145=some Oz:=by kernel_rfl
theorem dp3:ah 145=false:=by kernel_rfl
theorem cx9:TT 146=some OA:=by kernel_rfl
theorem dp4:ah 146=true:=by kernel_rfl
theorem cy0:TT 147=some OB:=by kernel_rfl
theorem dp5:ah 147=true:=by kernel_rfl
theorem cy1:TT 148=some Uu:=by kernel_rfl
theorem dp6:ah 148=true:=by kernel_rfl
theorem cy2:TT 149=some Uv:=by kernel_rfl
theorem dp7:ah 149=false:=by kernel_rfl
theorem cy3:TT 150=some Uw:=by kernel_rfl
theorem dp8:ah 150=true:=by kernel_rfl
theorem cy4:TT 151=some BJ:=by kernel_rfl
theorem dp9:ah 151=false:=by kernel_rfl
theorem cy5:TT 153=some Ux:=by kernel_rfl
theorem dq0:ah 153=true:=by kernel_rfl
theorem cy6:TT 154=some OC:=by kernel_rfl
theorem dq1:ah 154=false:=by kernel_rfl
theorem cy7:TT 155=some OD:=by kernel_rfl
theorem dq2:ah 155=false:=by kernel_rfl
theorem cy8:TT 156=some YY:=by kernel_rfl
theorem dq3:ah 156=false:=by kernel_rfl
theorem cy9:TT 157=some Uy:=by kernel_rfl
theorem dq4:ah 157=false:=by kernel_rfl
theorem cz0:TT 247=some YZ:=by kernel_rfl
theorem dq5:ah 247=true:=by kernel_rfl
theorem cz1:TT 248=some Uz:=by kernel_rfl
theorem dq6:ah 248=true:=by kernel_rfl
theorem cz2:TT 249=some Y0:=by kernel_rfl
theorem dq7:ah 249=true:=by kernel_rfl
theorem cz3:TT 250=some UA:=by kernel_rfl
theorem dq8:ah 250=true:=by kernel_rfl
theorem cz4:TT 251=some Y1:=by kernel_rfl
theorem dq9:ah 251=true:=by kernel_rfl
theorem cz5:TT 252=some UB:=by kernel_rfl
theorem dr0:ah 252=true:=by kernel_rfl
theorem cz6:TT 212=some OJ:=by kernel_rfl
theorem dr1:ah 212=true:=by kernel_rfl
theorem ai7:TT 213=some Hr:=by kernel_rfl
theorem VE:ah 213=false:=by kernel_rfl
theorem cz7:TT 229=some OL:=by kernel_rfl
theorem ak7:ah 229=false:=by kernel_rfl
theorem cz8:TT 230=some Y2:=by kernel_rfl
theorem dr2:ah 230=true:=by kernel_rfl
theorem cz9:TT 231=some UI:=by kernel_rfl
theorem dr3:ah 231=true:=by kernel_rfl
theorem da0:TT 232=some OQ:=by kernel_rfl
theorem dr4:ah 232=true:=by kernel_rfl
theorem da1:TT 233=some Y3:=by kernel_rfl
theorem dr5:ah 233=false:=by kernel_rfl
theorem da2:TT 234=some UR:=by kernel_rfl
theorem dr6:ah 234=false:=by kernel_rfl
theorem da3:TT 235=some Y4:=by kernel_rfl
theorem dr7:ah 235=false:=by kernel_rfl
theorem da4:TT 236=some UT:=by kernel_rfl
theorem dr8:ah 236=false:=by kernel_rfl
theorem da5:TT 237=some Y5:=by kernel_rfl
theorem dr9:ah 237=false:=by kernel_rfl
theorem da6:TT 238=some UU:=by kernel_rfl
theorem ds5:ah 238=false:=by kernel_rfl
theorem da7:TT 304=some Y6:=by kernel_rfl
theorem ds6:ah 304=true:=by kernel_rfl
theorem da8:TT 305=some Y7:=by kernel_rfl
theorem ds7:ah 305=true:=by kernel_rfl
theorem da9:TT 306=some UV:=by kernel_rfl
theorem ds8:ah 306=true:=by kernel_rfl
theorem db0:TT 289=some Y8:=by kernel_rfl
theorem ds9:ah 289=false:=by kernel_rfl
theorem db1:TT 290=some Y9:=by kernel_rfl
theorem dt0:ah 290=false:=by kernel_rfl
theorem db2:TT 291=some Za:=by kernel_rfl
theorem dt1:ah 291=true:=by kernel_rfl
theorem db3:TT 292=some U2:=by kernel_rfl
theorem dt2:ah 292=true:=by kernel_rfl
theorem db4:TT 293=some Zb:=by kernel_rfl
theorem dt3:ah 293=true:=by kernel_rfl
theorem db5:TT 295=some Zc:=by kernel_rfl
theorem dt4:ah 295=true:=by kernel_rfl
theorem db6:TT 296=some U3:=by kernel_rfl
theorem dt5:ah 296=true:=by kernel_rfl
theorem db7:TT 297=some U5:=by kernel_rfl
theorem dt6:ah 297=false:=by kernel_rfl
theorem db8:TT 298=some Zd:=by kernel_rfl
theorem dt7:ah 298=false:=by kernel_rfl
theorem db9:TT 299=some U6:=by kernel_rfl
theorem dt8:ah 299=false:=by kernel_rfl
theorem dc0:TT 300=some U7:=by kernel_rfl
theorem dt9:ah 300=false:=by kernel_rfl
theorem dc1:TT 301=some U8:=by kernel_rfl
theorem du0:ah 301=false:=by kernel_rfl
theorem dc2:TT 302=some Ze:=by kernel_rfl
theorem du1:ah 302=false:=by kernel_rfl
theorem dc3:TT 303=some U9:=by kernel_rfl
theorem du2:ah 303=false:=by kernel_rfl
theorem dc4:TT 342=some Zf:=by kernel_rfl
theorem du3:ah 342=false:=by kernel_rfl
theorem dc5:TT 343=some Zg:=by kernel_rfl
theorem du4:ah 343=false:=by kernel_rfl
theorem dc6:TT 344=some Zh:=by kernel_rfl
theorem du5:ah 344=false:=by kernel_rfl
theorem dc7:TT 345=some Va:=by kernel_rfl
theorem du6:ah 345=true:=by kernel_rfl
theorem dc8:TT 346=some Zi:=by kernel_rfl
theorem du7:ah 346=true:=by kernel_rfl
theorem dc9:TT 347=some K5:=by kernel_rfl
theorem du8:ah 347=true:=by kernel_rfl
theorem dd0:TT 348=some Zj:=by kernel_rfl
theorem du9:ah 348=false:=by kernel_rfl
theorem dd2:TT 349=some Zk:=by kernel_rfl
theorem dv0:ah 349=false:=by kernel_rfl
theorem dd3:TT 351=some Zl:=by kernel_rfl
theorem dv1:ah 351=true:=by kernel_rfl
theorem dd4:TT 353=some Zm:=by kernel_rfl
theorem dv2:ah 353=false:=by kernel_rfl
theorem dd5:TT 354=some Zn:=by kernel_rfl
theorem dv3:ah 354=false:=by kernel_rfl
theorem dd6:TT 355=some Vb:=by kernel_rfl
theorem dv4:ah 355=true:=by kernel_rfl
theorem dd7:TT 356=some Zo:=by kernel_rfl
theorem dv5:ah 356=false:=by kernel_rfl
theorem dd8:TT 357=some Vd:=by kernel_rfl
theorem dv6:ah 357=false:=by kernel_rfl
theorem dd9:TT 370=some Zp:=by kernel_rfl
theorem dv7:ah 370=false:=by kernel_rfl
theorem de0:TT 371=some Zq:=by kernel_rfl
theorem dv8:ah 371=false:=by kernel_rfl
theorem de1:TT 372=some Ve:=by kernel_rfl
theorem dv9:ah 372=false:=by kernel_rfl
theorem de2:TT 373=some O1:=by kernel_rfl
theorem dw0:ah 373=true:=by kernel_rfl
theorem de3:TT 374=some Zr:=by kernel_rfl
theorem dw1:ah 374=false:=by kernel_rfl
theorem de4:TT 375=some Zt:=by kernel_rfl
theorem dw2:ah 375=false:=by kernel_rfl
theorem de5:TT 376=some Vf:=by kernel_rfl
theorem dw3:ah 376=true:=by kernel_rfl
theorem de6:TT 377=some Zu:=by kernel_rfl
theorem dw4:ah 377=false:=by kernel_rfl
theorem de7:TT 379=some Zv:=by kernel_rfl
theorem dw5:ah 379=false:=by kernel_rfl
theorem de8:TT 380=some Zw:=by kernel_rfl
theorem dw6:ah 380=false:=by kernel_rfl
theorem de9:TT 381=some Zx:=by kernel_rfl
theorem dw7:ah 381=false:=by kernel_rfl
theorem df0:TT 382=some q477:=by kernel_rfl
theorem dw8:ah 382=true:=by kernel_rfl
theorem df1:TT 387=some Zy:=by kernel_rfl
theorem dw9:ah 387=false:=by kernel_rfl
theorem df3:TT 388=some Zz:=by kernel_rfl
theorem dx0:ah 388=false:=by kernel_rfl
theorem df4:TT 389=some Vg:=by kernel_rfl
theorem dx1:ah 389=false:=by kernel_rfl
theorem df5:TT 390=some Vh:=by kernel_rfl
theorem dx2:ah 390=true:=by kernel_rfl
theorem df6:TT 391=some ZA:=by kernel_rfl
theorem dx3:ah 391=false:=by kernel_rfl
theorem df7:TT 401=some ZB:=by kernel_rfl
theorem dx4:ah 401=false:=by kernel_rfl
theorem df8:TT 402=some ZC:=by kernel_rfl
theorem dx5:ah 402=false:=by kernel_rfl
theorem j6:jD Tryz.prog TT:=cu (oks (by kernel_rfl) (by decide +kernel))
