/- The table of functions; which of them go by value. -/
import Derived.Test.YtllbjfmiilckiaaGreatF64
import Derived.KernelRfl
set_option maxRecDepth 100000
namespace Go.Proofs.YtllbjfmiilckiaaGreat
def be9:List (Nat×QF):=[(63,q29),(22,q31),(60,q46),(4,q70),(143,q86),(69,q87),(49,Jq),(61,NV),(62,NW),(130,pK),(77,GQ),(52,pM),(205,Ju),(206,Jv),(162,Og),(50,Jw),(51,Jy),(129,Jz),(203,rP),(204,Oh),(167,JH),(173,JJ),(117,uJ),(306,JR),(189,JU),(267,U4),(268,Ou),(269,U5),(270,Ov),(271,U7),(272,Ow),(252,J7),(190,U8),(191,Oz),(352,U9),(353,Va),(344,OI),(254,Vb),(255,Vd),(256,Ve),(257,OJ),(258,Vf),(260,Vg),(261,OL),(336,Vh),(337,Vi),(338,Vj),(339,OP),(340,Vk),(341,GX),(342,Vl),(343,Vm),(346,Vn),(348,Vo),(349,Vp),(350,OQ),(375,Vq),(376,Vs),(377,OT),(378,Kk),(379,Vt),(380,Vu),(381,OU),(382,Vv),(384,Vx),(385,Vy),(386,Vz),(387,q477),(399,VA),(400,VB),(401,OW),(402,OX),(403,VC),(413,VD),(416,VE)]
def TT:FuncId->Option QF:=gI be9
def aD (f:FuncId):Bool:=[63,22,60,4,143,69,61,62,130,77,205,206,162,203,204,167,173,117,306,189,267,268,269,270,271,272,252,190,191,352,353,344,256,257,258,260,261,339,340,341,346,350,378,381,387,402].any λn=>Nat.beq n f
theorem t29:TT 63=some q29:=by kernel_rfl
theorem v29:aD 63=true:=by kernel_rfl
theorem t31:TT 22=some q31:=by kernel_rfl
theorem v31:aD 22=true:=by kernel_rfl
theorem t46:TT 60=some q46:=by kernel_rfl
theorem v46:aD 60=true:=by kernel_rfl
theorem t70:TT 4=some q70:=by kernel_rfl
theorem v70:aD 4=true:=by kernel_rfl
theorem t86:TT 143=some q86:=by kernel_rfl
theorem v86:aD 143=true:=by kernel_rfl
theorem t87:TT 69=some q87:=by kernel_rfl
theorem v87:aD 69=true:=by kernel_rfl
theorem WI:TT 49=some Jq:=by kernel_rfl
theorem WZ:aD 49=false:=by kernel_rfl
theorem ay0:TT 61=some NV:=by kernel_rfl
theorem bi3:aD 61=true:=by kernel_rfl
theorem ay1:TT 62=some NW:=by kernel_rfl
theorem bi4:aD 62=true:=by kernel_rfl
theorem yc:TT 130=some pK:=by kernel_rfl
theorem yj:aD 130=true:=by kernel_rfl
theorem t117:TT 77=some GQ:=by kernel_rfl
theorem v117:aD 77=true:=by kernel_rfl
theorem KM:TT 52=some pM:=by kernel_rfl
theorem KS:aD 52=false:=by kernel_rfl
theorem t183:TT 205=some Ju:=by kernel_rfl
theorem v183:aD 205=true:=by kernel_rfl
theorem ay2:TT 206=some Jv:=by kernel_rfl
theorem bi5:aD 206=true:=by kernel_rfl
theorem ay3:TT 162=some Og:=by kernel_rfl
theorem bi6:aD 162=true:=by kernel_rfl
theorem WJ:TT 50=some Jw:=by kernel_rfl
theorem W9:aD 50=false:=by kernel_rfl
theorem WK:TT 51=some Jy:=by kernel_rfl
theorem Xd:aD 51=false:=by kernel_rfl
theorem KN:TT 129=some Jz:=by kernel_rfl
theorem KT:aD 129=false:=by kernel_rfl
theorem vL:TT 203=some rP:=by kernel_rfl
theorem vM:aD 203=true:=by kernel_rfl
theorem ay4:TT 204=some Oh:=by kernel_rfl
theorem bi7:aD 204=true:=by kernel_rfl
theorem t232:TT 167=some JH:=by kernel_rfl
theorem v232:aD 167=true:=by kernel_rfl
theorem ay5:TT 173=some JJ:=by kernel_rfl
theorem bi8:aD 173=true:=by kernel_rfl
theorem ay6:TT 117=some uJ:=by kernel_rfl
theorem bi9:aD 117=true:=by kernel_rfl
theorem ay7:TT 306=some JR:=by kernel_rfl
theorem bj0:aD 306=true:=by kernel_rfl
theorem ay8:TT 189=some JU:=by kernel_rfl
theorem bj1:aD 189=true:=by kernel_rfl
theorem ay9:TT 267=some U4:=by kernel_rfl
theorem bj2:aD 267=true:=by kernel_rfl
theorem az0:TT 268=some Ou:=by kernel_rfl
theorem bj3:aD 268=true:=by kernel_rfl
theorem az1:TT 269=some U5:=by kernel_rfl
theorem bj4:aD 269=true:=by kernel_rfl
theorem az2:TT 270=some Ov:=by kernel_rfl
theorem bj5:aD 270=true:=by kernel_rfl
theorem az3:TT 271=some U7:=by kernel_rfl
theorem bj6:aD 271=true:=by kernel_rfl
theorem az4:TT 272=some Ow:=by kernel_rfl
theorem bj7:aD 272=true:=by kernel_rfl
theorem az5:TT 252=some J7:=by kernel_rfl
theorem bj8:aD 252=true:=by kernel_rfl
theorem az6:TT 190=some U8:=by kernel_rfl
theorem bj9:aD 190=true:=by kernel_rfl
theorem az7:TT 191=some Oz:=by kernel_rfl
theorem bk0:aD 191=true:=by kernel_rfl
theorem az8:TT 352=some U9:=by kernel_rfl
theorem bk3:aD 352=true:=by kernel_rfl
theorem az9:TT 353=some Va:=by kernel_rfl
theorem bk4:aD 353=true:=by kernel_rfl
theorem ba0:TT 344=some OI:=by kernel_rfl
theorem bk5:aD 344=true:=by kernel_rfl
theorem ba1:TT 254=some Vb:=by kernel_rfl
theorem bk6:aD 254=false:=by kernel_rfl
theorem ba2:TT 255=some Vd:=by kernel_rfl
theorem bk7:aD 255=false:=by kernel_rfl
theorem ba3:TT 256=some Ve:=by kernel_rfl
theorem bk8:aD 256=true:=by kernel_rfl
theorem ba4:TT 257=some OJ:=by kernel_rfl
theorem bk9:aD 257=true:=by kernel_rfl
theorem ba5:TT 258=some Vf:=by kernel_rfl
theorem bl0:aD 258=true:=by kernel_rfl
theorem ba6:TT 260=some Vg:=by kernel_rfl
theorem bl1:aD 260=true:=by kernel_rfl
theorem ba7:TT 261=some OL:=by kernel_rfl
theorem bl3:aD 261=true:=by kernel_rfl
theorem ba8:TT 336=some Vh:=by kernel_rfl
theorem bl4:aD 336=false:=by kernel_rfl
theorem ba9:TT 337=some Vi:=by kernel_rfl
theorem bl5:aD 337=false:=by kernel_rfl
theorem bb4:TT 338=some Vj:=by kernel_rfl
theorem bl6:aD 338=false:=by kernel_rfl
theorem bb5:TT 339=some OP:=by kernel_rfl
theorem bl7:aD 339=true:=by kernel_rfl
theorem bb6:TT 340=some Vk:=by kernel_rfl
theorem bl8:aD 340=true:=by kernel_rfl
theorem bb7:TT 341=some GX:=by kernel_rfl
theorem bl9:aD 341=true:=by kernel_rfl
theorem bb8:TT 342=some Vl:=by kernel_rfl
theorem bm0:aD 342=false:=by kernel_rfl
theorem bb9:TT 343=some Vm:=by kernel_rfl
theorem bm1:aD 343=false:=by kernel_rfl
theorem bc4:TT 346=some Vn:=by kernel_rfl
theorem bm2:aD 346=true:=by kernel_rfl
theorem bc5:TT 348=some Vo:=by kernel_rfl
theorem bm3:aD 348=false:=by kernel_rfl
theorem bc6:TT 349=some Vp:=by kernel_rfl
theorem bm4:aD 349=false:=by kernel_rfl
theorem bc7:TT 350=some OQ:=by kernel_rfl
theorem bm5:aD 350=true:=by kernel_rfl
theorem bc8:TT 375=some Vq:=by kernel_rfl
theorem bm6:aD 375=false:=by kernel_rfl
theorem bc9:TT 376=some Vs:=by kernel_rfl
theorem bm7:aD 376=false:=by kernel_rfl
theorem bd0:TT 377=some OT:=by kernel_rfl
theorem bm8:aD 377=false:=by kernel_rfl
theorem bd1:TT 378=some Kk:=by kernel_rfl
theorem bm9:aD 378=true:=by kernel_rfl
theorem bd2:TT 379=some Vt:=by kernel_rfl
theorem bn0:aD 379=false:=by kernel_rfl
theorem bd3:TT 380=some Vu:=by kernel_rfl
theorem bn1:aD 380=false:=by kernel_rfl
theorem bd4:TT 381=some OU:=by kernel_rfl
theorem bn2:aD 381=true:=by kernel_rfl
theorem bd5:TT 382=some Vv:=by kernel_rfl
theorem bn3:aD 382=false:=by kernel_rfl
theorem bd6:TT 384=some Vx:=by kernel_rfl
theorem bn4:aD 384=false:=by kernel_rfl
theorem bd7:TT 385=some Vy:=by kernel_rfl
theorem bn5:aD 385=false:=by kernel_rfl
theorem bd8:TT 386=some Vz:=by kernel_rfl
theorem bn6:aD 386=false:=by kernel_rfl
theorem bd9:TT 387=some q477:=by kernel_rfl
theorem bn7:aD 387=true:=by kernel_rfl
theorem be0:TT 399=some VA:=by kernel_rfl
theorem bn8:aD 399=false:=by kernel_rfl
theorem be1:TT 400=some VB:=by kernel_rfl
theorem bn9:aD 400=false:=by kernel_rfl
theorem be2:TT 401=some OW:=by kernel_rfl
theorem bo0:aD 401=false:=by kernel_rfl
theorem be3:TT 402=some OX:=by kernel_rfl
theorem bo1:aD 402=true:=by kernel_rfl
theorem be4:TT 403=some VC:=by kernel_rfl
theorem bo2:aD 403=false:=by kernel_rfl
theorem be5:TT 413=some VD:=by kernel_rfl
theorem bo3:aD 413=false:=by kernel_rfl
theorem be6:TT 416=some VE:=by kernel_rfl
theorem bo4:aD 416=false:=by kernel_rfl
theorem yf:jy Tryz.prog TT:=di (oks (by kernel_rfl) (by decide +kernel))
