/- The table of functions; which of them go by value. -/
import Derived.Test.YtoecipeaknldaaaGreatF64
import Derived.KernelRfl
set_option maxRecDepth 100000
namespace Go.Proofs.YtoecipeaknldaaaGreat
def an0:List (Nat×QF):=[(16,q29),(36,q31),(31,q42),(33,q46),(75,q51),(74,q52),(127,q53),(18,q70),(34,q72),(29,q73),(30,q74),(35,q86),(78,q87),(63,GX),(71,Ns),(65,GY),(84,Jz),(122,GZ),(113,Nt),(126,Nu),(39,G5),(70,Nv),(53,oI),(64,NB),(66,NC),(67,G6),(68,ND),(69,NE),(76,JC),(77,JD),(128,NN),(85,JE),(86,JF),(112,G7),(162,Tp),(163,NP),(81,JH),(152,JI),(123,NV),(140,uX),(254,N8),(170,N9),(199,TD),(200,Ob),(201,TE),(202,Oc),(203,TF),(204,Od),(182,JU),(171,TG),(172,Og),(236,TH),(237,TJ),(238,Oj),(217,TK),(218,TM),(219,TN),(220,Ol),(221,TQ),(223,TR),(224,Om),(244,TS),(245,TU),(246,TV),(247,Oq),(248,TY),(249,He),(250,TZ),(251,T9),(253,Ua),(256,Ub),(257,Uc),(258,Ot),(264,Ud),(265,Ue),(266,Ou),(267,Kc),(268,Uf),(269,Ug),(270,Ov),(271,Uh),(273,Ui),(274,Uj),(275,Uk),(276,q477),(277,Ul),(278,Um),(279,Ox),(280,Oy),(281,Un),(291,Uo),(292,Uq)]
def TT:FuncId->Option QF:=iN an0
def ak (f:FuncId):Bool:=[16,36,31,33,75,74,127,18,34,29,30,35,78,113,126,39,70,67,69,76,77,128,162,163,81,152,140,254,170,199,200,201,202,203,204,182,171,172,236,237,238,219,220,221,223,224,247,248,249,253,258,267,270,276,280].any λn=>Nat.beq n f
theorem t29:TT 16=some q29:=by kernel_rfl
theorem v29:ak 16=true:=by kernel_rfl
theorem t31:TT 36=some q31:=by kernel_rfl
theorem v31:ak 36=true:=by kernel_rfl
theorem t42:TT 31=some q42:=by kernel_rfl
theorem v42:ak 31=true:=by kernel_rfl
theorem t46:TT 33=some q46:=by kernel_rfl
theorem v46:ak 33=true:=by kernel_rfl
theorem t51:TT 75=some q51:=by kernel_rfl
theorem v51:ak 75=true:=by kernel_rfl
theorem t52:TT 74=some q52:=by kernel_rfl
theorem v52:ak 74=true:=by kernel_rfl
theorem t53:TT 127=some q53:=by kernel_rfl
theorem v53:ak 127=true:=by kernel_rfl
theorem t70:TT 18=some q70:=by kernel_rfl
theorem v70:ak 18=true:=by kernel_rfl
theorem t72:TT 34=some q72:=by kernel_rfl
theorem v72:ak 34=true:=by kernel_rfl
theorem t73:TT 29=some q73:=by kernel_rfl
theorem v73:ak 29=true:=by kernel_rfl
theorem t74:TT 30=some q74:=by kernel_rfl
theorem v74:ak 30=true:=by kernel_rfl
theorem t86:TT 35=some q86:=by kernel_rfl
theorem v86:ak 35=true:=by kernel_rfl
theorem t87:TT 78=some q87:=by kernel_rfl
theorem v87:ak 78=true:=by kernel_rfl
theorem Vo:TT 63=some GX:=by kernel_rfl
theorem VH:ak 63=false:=by kernel_rfl
theorem ag3:TT 71=some Ns:=by kernel_rfl
theorem aq2:ak 71=false:=by kernel_rfl
theorem Vp:TT 65=some GY:=by kernel_rfl
theorem VI:ak 65=false:=by kernel_rfl
theorem Vq:TT 84=some Jz:=by kernel_rfl
theorem VJ:ak 84=false:=by kernel_rfl
theorem t109:TT 122=some GZ:=by kernel_rfl
theorem v109:ak 122=false:=by kernel_rfl
theorem ag4:TT 113=some Nt:=by kernel_rfl
theorem aq3:ak 113=true:=by kernel_rfl
theorem ag5:TT 126=some Nu:=by kernel_rfl
theorem aq4:ak 126=true:=by kernel_rfl
theorem t117:TT 39=some G5:=by kernel_rfl
theorem v117:ak 39=true:=by kernel_rfl
theorem ag6:TT 70=some Nv:=by kernel_rfl
theorem aq5:ak 70=true:=by kernel_rfl
theorem KD:TT 53=some oI:=by kernel_rfl
theorem KM:ak 53=false:=by kernel_rfl
theorem t157:TT 64=some NB:=by kernel_rfl
theorem v157:ak 64=false:=by kernel_rfl
theorem ag7:TT 66=some NC:=by kernel_rfl
theorem aq6:ak 66=false:=by kernel_rfl
theorem t159:TT 67=some G6:=by kernel_rfl
theorem v159:ak 67=true:=by kernel_rfl
theorem t160:TT 68=some ND:=by kernel_rfl
theorem v160:ak 68=false:=by kernel_rfl
theorem ag8:TT 69=some NE:=by kernel_rfl
theorem aq7:ak 69=true:=by kernel_rfl
theorem t183:TT 76=some JC:=by kernel_rfl
theorem v183:ak 76=true:=by kernel_rfl
theorem ag9:TT 77=some JD:=by kernel_rfl
theorem aq8:ak 77=true:=by kernel_rfl
theorem ah0:TT 128=some NN:=by kernel_rfl
theorem aq9:ak 128=true:=by kernel_rfl
theorem Vs:TT 85=some JE:=by kernel_rfl
theorem VK:ak 85=false:=by kernel_rfl
theorem Vt:TT 86=some JF:=by kernel_rfl
theorem VL:ak 86=false:=by kernel_rfl
theorem Vu:TT 112=some G7:=by kernel_rfl
theorem VM:ak 112=false:=by kernel_rfl
theorem ah1:TT 162=some Tp:=by kernel_rfl
theorem ar0:ak 162=true:=by kernel_rfl
theorem ah2:TT 163=some NP:=by kernel_rfl
theorem ar1:ak 163=true:=by kernel_rfl
theorem t232:TT 81=some JH:=by kernel_rfl
theorem v232:ak 81=true:=by kernel_rfl
theorem ah3:TT 152=some JI:=by kernel_rfl
theorem ar2:ak 152=true:=by kernel_rfl
theorem ah4:TT 123=some NV:=by kernel_rfl
theorem ar3:ak 123=false:=by kernel_rfl
theorem ah5:TT 140=some uX:=by kernel_rfl
theorem ar4:ak 140=true:=by kernel_rfl
theorem ah6:TT 254=some N8:=by kernel_rfl
theorem ar5:ak 254=true:=by kernel_rfl
theorem ah7:TT 170=some N9:=by kernel_rfl
theorem ar6:ak 170=true:=by kernel_rfl
theorem ah8:TT 199=some TD:=by kernel_rfl
theorem ar7:ak 199=true:=by kernel_rfl
theorem ah9:TT 200=some Ob:=by kernel_rfl
theorem ar8:ak 200=true:=by kernel_rfl
theorem ai0:TT 201=some TE:=by kernel_rfl
theorem ar9:ak 201=true:=by kernel_rfl
theorem ai1:TT 202=some Oc:=by kernel_rfl
theorem as0:ak 202=true:=by kernel_rfl
theorem ai2:TT 203=some TF:=by kernel_rfl
theorem as2:ak 203=true:=by kernel_rfl
theorem ai3:TT 204=some Od:=by kernel_rfl
theorem as3:ak 204=true:=by kernel_rfl
theorem ai4:TT 182=some JU:=by kernel_rfl
theorem as4:ak 182=true:=by kernel_rfl
theorem ai5:TT 171=some TG:=by kernel_rfl
theorem as5:ak 171=true:=by kernel_rfl
theorem ai6:TT 172=some Og:=by kernel_rfl
theorem as6:ak 172=true:=by kernel_rfl
theorem ai7:TT 236=some TH:=by kernel_rfl
theorem as7:ak 236=true:=by kernel_rfl
theorem ai8:TT 237=some TJ:=by kernel_rfl
theorem as8:ak 237=true:=by kernel_rfl
theorem ai9:TT 238=some Oj:=by kernel_rfl
theorem as9:ak 238=true:=by kernel_rfl
theorem aj0:TT 217=some TK:=by kernel_rfl
theorem at0:ak 217=false:=by kernel_rfl
theorem aj1:TT 218=some TM:=by kernel_rfl
theorem at1:ak 218=false:=by kernel_rfl
theorem aj2:TT 219=some TN:=by kernel_rfl
theorem at5:ak 219=true:=by kernel_rfl
theorem aj3:TT 220=some Ol:=by kernel_rfl
theorem at6:ak 220=true:=by kernel_rfl
theorem aj4:TT 221=some TQ:=by kernel_rfl
theorem at7:ak 221=true:=by kernel_rfl
theorem aj5:TT 223=some TR:=by kernel_rfl
theorem au0:ak 223=true:=by kernel_rfl
theorem aj6:TT 224=some Om:=by kernel_rfl
theorem au1:ak 224=true:=by kernel_rfl
theorem aj7:TT 244=some TS:=by kernel_rfl
theorem au2:ak 244=false:=by kernel_rfl
theorem aj8:TT 245=some TU:=by kernel_rfl
theorem au3:ak 245=false:=by kernel_rfl
theorem aj9:TT 246=some TV:=by kernel_rfl
theorem au4:ak 246=false:=by kernel_rfl
theorem ak0:TT 247=some Oq:=by kernel_rfl
theorem au5:ak 247=true:=by kernel_rfl
theorem ak1:TT 248=some TY:=by kernel_rfl
theorem au6:ak 248=true:=by kernel_rfl
theorem ak2:TT 249=some He:=by kernel_rfl
theorem au7:ak 249=true:=by kernel_rfl
theorem ak3:TT 250=some TZ:=by kernel_rfl
theorem au8:ak 250=false:=by kernel_rfl
theorem ak4:TT 251=some T9:=by kernel_rfl
theorem au9:ak 251=false:=by kernel_rfl
theorem ak5:TT 253=some Ua:=by kernel_rfl
theorem av0:ak 253=true:=by kernel_rfl
theorem ak6:TT 256=some Ub:=by kernel_rfl
theorem av1:ak 256=false:=by kernel_rfl
theorem ak7:TT 257=some Uc:=by kernel_rfl
theorem av2:ak 257=false:=by kernel_rfl
theorem ak8:TT 258=some Ot:=by kernel_rfl
theorem av3:ak 258=true:=by kernel_rfl
theorem ak9:TT 264=some Ud:=by kernel_rfl
theorem av4:ak 264=false:=by kernel_rfl
theorem al0:TT 265=some Ue:=by kernel_rfl
theorem av5:ak 265=false:=by kernel_rfl
theorem al1:TT 266=some Ou:=by kernel_rfl
theorem av6:ak 266=false:=by kernel_rfl
theorem al2:TT 267=some Kc:=by kernel_rfl
theorem av7:ak 267=true:=by kernel_rfl
theorem al3:TT 268=some Uf:=by kernel_rfl
theorem av8:ak 268=false:=by kernel_rfl
theorem al4:TT 269=some Ug:=by kernel_rfl
theorem av9:ak 269=false:=by kernel_rfl
theorem al5:TT 270=some Ov:=by kernel_rfl
theorem aw0:ak 270=true:=by kernel_rfl
theorem al6:TT 271=some Uh:=by kernel_rfl
theorem aw1:ak 271=false:=by kernel_rfl
theorem al7:TT 273=some Ui:=by kernel_rfl
theorem aw2:ak 273=false:=by kernel_rfl
theorem al8:TT 274=some Uj:=by kernel_rfl
theorem aw3:ak 274=false:=by kernel_rfl
theorem al9:TT 275=some Uk:=by kernel_rfl
theorem aw4:ak 275=false:=by kernel_rfl
theorem am0:TT 276=some q477:=by kernel_rfl
theorem aw5:ak 276=true:=by kernel_rfl
theorem am1:TT 277=some Ul:=by kernel_rfl
theorem aw6:ak 277=false:=by kernel_rfl
theorem am2:TT 278=some Um:=by kernel_rfl
theorem aw7:ak 278=false:=by kernel_rfl
theorem am3:TT 279=some Ox:=by kernel_rfl
theorem aw8:ak 279=false:=by kernel_rfl
theorem am4:TT 280=some Oy:=by kernel_rfl
theorem aw9:ak 280=true:=by kernel_rfl
theorem am5:TT 281=some Un:=by kernel_rfl
theorem ax0:ak 281=false:=by kernel_rfl
theorem am6:TT 291=some Uo:=by kernel_rfl
theorem ax1:ak 291=false:=by kernel_rfl
theorem am7:TT 292=some Uq:=by kernel_rfl
theorem ax2:ak 292=false:=by kernel_rfl
theorem yF:kN Tryz.prog TT:=dZ (oks (by kernel_rfl) (by decide +kernel))
