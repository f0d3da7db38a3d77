/- Deltas, pushes, indices as1 data; the tables of layer 19's instances of the reading. -/
import Derived.KernelRfl
import Derived.Test.YtoecipeaknldaaaGreatXs
set_option maxRecDepth 100000
set_option linter.unusedVariables false
set_option linter.unusedSimpArgs false
namespace Go.Proofs.YtoecipeaknldaaaGreat
open IntKind (wrap)
section
structure Dlt where
 epoch:Int
 covers:Sl Int
 pods:Sl Pod
 services:Sl Svc
 bound:Sl Way
 policies:Sl Pol
 gonePods:Sl Int
 goneServices:Sl Int
 goneBound:Sl Int
 gonePolicies:Sl Int
def Dlt.c (x:Dlt):List D:=[u64 x.epoch,x.covers.d bz,x.pods.d Pod.c,x.services.d Svc.c,x.bound.d Way.c,x.policies.d Pol.c,x.gonePods.d aR,x.goneServices.d aR,x.goneBound.d aR,x.gonePolicies.d aR]
abbrev Dlt.v (x:Dlt):V:=ag x.c
def Dlt.vw (x:Dlt):Vw:=⟨x.epoch,x.covers,x.pods,x.services,x.bound,x.policies⟩
abbrev Dlt.ok (x:Dlt):Prop:=x.vw.ok/\short x.gonePods/\short x.goneServices/\short x.goneBound/\short x.gonePolicies
structure Psh where
 life:Int
 inc:Int
 seq:Int
 upon:Int
 delta:Dlt
def Psh.c (x:Psh):List D:=u64 x.life::u64 x.inc::u64 x.seq::u64 x.upon::x.delta.c
structure Idx where
 node:Int
 inc:Int
 asked:Int
 addrs:Sl Int
 since:Int
 life:Int
 seq:Int
 view:Vw
 high:Int
def Idx.c (x:Idx):List D:=i64 x.node::u64 x.inc::u64 x.asked::x.addrs.d bz::u64 x.since::u64 x.life::u64 x.seq::(x.view.c++[u64 x.high])
abbrev Idx.v (x:Idx):V:=ag x.c
structure Ack where
 life:Int
 inc:Int
 seq:Int
 ok:Int
def Ack.c (x:Ack):List D:=[u64 x.life,u64 x.inc,u64 x.seq,i64 x.ok]
structure Sbs where
 inc:Int
 seq:Int
 addrs:Sl Int
def Sbs.c (x:Sbs):List D:=[u64 x.inc,u64 x.seq,x.addrs.d bz]
@[simp] theorem Ack.len {x:Ack}:x.c.length=4:=(rfl)
@[simp] theorem Ack.all {x:Ack}:sub x.c 0 4=some x.c:=(rfl)
@[simp] theorem Sbs.len {x:Sbs}:x.c.length=3:=(rfl)
@[simp] theorem Sbs.all {x:Sbs}:sub x.c 0 3=some x.c:=(rfl)
@[simp] theorem Dlt.len {x:Dlt}:x.c.length=10:=(rfl)
@[simp] theorem Psh.len {x:Psh}:x.c.length=14:=(rfl)
@[simp] theorem Idx.len {x:Idx}:x.c.length=14:=(rfl)
@[simp] theorem Dlt.s0_10 {x:Dlt}:sub x.c 0 10=some x.c:=(rfl)
@[simp] theorem Dlt.s0_1 {x:Dlt}:sub x.c 0 1=some [u64 x.epoch]:=(rfl)
@[simp] theorem Dlt.s1_1 {x:Dlt}:sub x.c 1 1=some [x.covers.d bz]:=(rfl)
@[simp] theorem Dlt.s2_1 {x:Dlt}:sub x.c 2 1=some [x.pods.d Pod.c]:=(rfl)
@[simp] theorem Dlt.s3_1 {x:Dlt}:sub x.c 3 1=some [x.services.d Svc.c]:=(rfl)
@[simp] theorem Dlt.s4_1 {x:Dlt}:sub x.c 4 1=some [x.bound.d Way.c]:=(rfl)
@[simp] theorem Dlt.s5_1 {x:Dlt}:sub x.c 5 1=some [x.policies.d Pol.c]:=(rfl)
@[simp] theorem Dlt.s6_1 {x:Dlt}:sub x.c 6 1=some [x.gonePods.d aR]:=(rfl)
@[simp] theorem Dlt.s7_1 {x:Dlt}:sub x.c 7 1=some [x.goneServices.d aR]:=(rfl)
@[simp] theorem Dlt.s8_1 {x:Dlt}:sub x.c 8 1=some [x.goneBound.d aR]:=(rfl)
@[simp] theorem Dlt.s9_1 {x:Dlt}:sub x.c 9 1=some [x.gonePolicies.d aR]:=(rfl)
@[simp] theorem Psh.s0_14 {x:Psh}:sub x.c 0 14=some x.c:=(rfl)
@[simp] theorem Psh.s0_1 {x:Psh}:sub x.c 0 1=some [u64 x.life]:=(rfl)
@[simp] theorem Psh.s1_1 {x:Psh}:sub x.c 1 1=some [u64 x.inc]:=(rfl)
@[simp] theorem Psh.s2_1 {x:Psh}:sub x.c 2 1=some [u64 x.seq]:=(rfl)
@[simp] theorem Psh.s3_1 {x:Psh}:sub x.c 3 1=some [u64 x.upon]:=(rfl)
@[simp] theorem Psh.s4_10 {x:Psh}:sub x.c 4 10=some x.delta.c:=(rfl)
@[simp] theorem Psh.s4_1 {x:Psh}:sub x.c 4 1=some [u64 x.delta.epoch]:=(rfl)
@[simp] theorem Idx.s0_14 {x:Idx}:sub x.c 0 14=some x.c:=(rfl)
@[simp] theorem Idx.s0_1 {x:Idx}:sub x.c 0 1=some [i64 x.node]:=(rfl)
@[simp] theorem Idx.s1_1 {x:Idx}:sub x.c 1 1=some [u64 x.inc]:=(rfl)
@[simp] theorem Idx.s2_1 {x:Idx}:sub x.c 2 1=some [u64 x.asked]:=(rfl)
@[simp] theorem Idx.s3_1 {x:Idx}:sub x.c 3 1=some [x.addrs.d bz]:=(rfl)
@[simp] theorem Idx.s4_1 {x:Idx}:sub x.c 4 1=some [u64 x.since]:=(rfl)
@[simp] theorem Idx.s5_1 {x:Idx}:sub x.c 5 1=some [u64 x.life]:=(rfl)
@[simp] theorem Idx.s6_1 {x:Idx}:sub x.c 6 1=some [u64 x.seq]:=(rfl)
@[simp] theorem Idx.s7_6 {x:Idx}:sub x.c 7 6=some x.view.c:=(rfl)
@[simp] theorem Idx.s7_1 {x:Idx}:sub x.c 7 1=some [u64 x.view.epoch]:=(rfl)
@[simp] theorem Idx.s13_1 {x:Idx}:sub x.c 13 1=some [u64 x.high]:=(rfl)
def Vn:List V:=[(.d (.int .u64 0)),(.d (.str ⟨#[]⟩)),(.d (.int .u32 0)),(.d (.int .i64 0)),(.d (.int .u64 0))]
def VN:List V:=[(.d (.int .u64 0)),(.d (.int .i64 0))]
def am8:List (Nat×QF):=[(19,q79),(46,z8),(88,Tz),(89,TA),(90,TB),(91,TC),(143,af1),(144,af2),(145,af3),(146,af4),(141,JW),(142,Oh),(94,JL),(149,Oi),(45,q75),(87,rE),(102,Nw),(95,Ny),(108,NW),(115,NY),(156,NR),(150,NS),(160,Oe),(164,N7),(63,GX),(65,GY),(122,GZ),(168,JV),(132,Aa),(133,G8),(134,JK),(139,NZ),(135,Tv),(136,Tw),(137,Tx),(138,Ty),(48,NF),(50,NG),(52,NH),(55,NI),(80,JB),(129,JJ),(130,NU),]
def TI:FuncId->Option QF:=iN am8
def bn (f:FuncId):Bool:=[19,46,88,89,90,91,141,142,94,149,45,87,132,133,134,139,135,136,137,138,48,50,52,55,80,129,130].any λn=>Nat.beq n f
theorem i79:TI 19=some (q79):=by kernel_rfl
theorem j79:bn 19=true:=by kernel_rfl
theorem i164:TI 46=some (z8):=by kernel_rfl
theorem ZW:bn 46=true:=by kernel_rfl
theorem ZG:TI 88=some (aparQ 141 142 143 95):=by kernel_rfl
theorem aa5:bn 88=true:=by kernel_rfl
theorem ZH:TI 89=some (aparQ 141 142 144 102):=by kernel_rfl
theorem aa6:bn 89=true:=by kernel_rfl
theorem ZI:TI 90=some (aparQ 141 142 145 108):=by kernel_rfl
theorem aa7:bn 90=true:=by kernel_rfl
theorem ZJ:TI 91=some (aparQ 141 142 146 115):=by kernel_rfl
theorem aa8:bn 91=true:=by kernel_rfl
theorem ZN:TI 143=some (apacQ 7 94):=by kernel_rfl
theorem ab2:bn 143=false:=by kernel_rfl
theorem ZO:TI 144=some (apacQ 5 94):=by kernel_rfl
theorem ab3:bn 144=false:=by kernel_rfl
theorem ZP:TI 145=some (apacQ 2 94):=by kernel_rfl
theorem ab4:bn 145=false:=by kernel_rfl
theorem ZQ:TI 146=some (apacQ 5 94):=by kernel_rfl
theorem ab5:bn 146=false:=by kernel_rfl
theorem ZL:TI 141=some (JW):=by kernel_rfl
theorem ab0:bn 141=true:=by kernel_rfl
theorem ZM:TI 142=some (Oh):=by kernel_rfl
theorem ab1:bn 142=true:=by kernel_rfl
theorem ZK:TI 94=some (JL):=by kernel_rfl
theorem aa9:bn 94=true:=by kernel_rfl
theorem ZR:TI 149=some (Oi):=by kernel_rfl
theorem ab6:bn 149=true:=by kernel_rfl
theorem i75:TI 45=some (q75):=by kernel_rfl
theorem j75:bn 45=true:=by kernel_rfl
theorem i162:TI 87=some (rE):=by kernel_rfl
theorem ZV:bn 87=true:=by kernel_rfl
theorem RA:TI 102=some (someQ 156):=by kernel_rfl
theorem R7:bn 102=false:=by kernel_rfl
theorem i143:TI 95=some (someQ 150):=by kernel_rfl
theorem R8:bn 95=false:=by kernel_rfl
theorem RG:TI 108=some (someQ 160):=by kernel_rfl
theorem Sb:bn 108=false:=by kernel_rfl
theorem RH:TI 115=some (someQ 164):=by kernel_rfl
theorem Sc:bn 115=false:=by kernel_rfl
theorem RB:TI 156=some (anyQ 65):=by kernel_rfl
theorem R9:bn 156=false:=by kernel_rfl
theorem RD:TI 150=some (anyQ 63):=by kernel_rfl
theorem Sa:bn 150=false:=by kernel_rfl
theorem RL:TI 160=some (anyQ 122):=by kernel_rfl
theorem Si:bn 160=false:=by kernel_rfl
theorem RI:TI 164=some (anyQ 168):=by kernel_rfl
theorem Sd:bn 164=false:=by kernel_rfl
theorem Ry:TI 63=some (idxQ 7):=by kernel_rfl
theorem RZ:bn 63=false:=by kernel_rfl
theorem Rz:TI 65=some (idxQ 5):=by kernel_rfl
theorem R5:bn 65=false:=by kernel_rfl
theorem i109:TI 122=some (idxQ 2):=by kernel_rfl
theorem R6:bn 122=false:=by kernel_rfl
theorem RJ:TI 168=some (idxQ 5):=by kernel_rfl
theorem Sg:bn 168=false:=by kernel_rfl
theorem Zw:TI 132=some (Aa):=by kernel_rfl
theorem Z7:bn 132=true:=by kernel_rfl
theorem Zx:TI 133=some (G8):=by kernel_rfl
theorem Z8:bn 133=true:=by kernel_rfl
theorem Zy:TI 134=some (JK):=by kernel_rfl
theorem Z9:bn 134=true:=by kernel_rfl
theorem ZE:TI 139=some (NZ):=by kernel_rfl
theorem aa4:bn 139=true:=by kernel_rfl
theorem Zz:TI 135=some (rsgQ 7):=by kernel_rfl
theorem aa0:bn 135=true:=by kernel_rfl
theorem ZA:TI 136=some (rsgQ 5):=by kernel_rfl
theorem aa1:bn 136=true:=by kernel_rfl
theorem ZB:TI 137=some (rsgQ 2):=by kernel_rfl
theorem aa2:bn 137=true:=by kernel_rfl
theorem ZC:TI 138=some (rsgQ 5):=by kernel_rfl
theorem aa3:bn 138=true:=by kernel_rfl
theorem Zq:TI 48=some (NF):=by kernel_rfl
theorem ZX:bn 48=true:=by kernel_rfl
theorem i168:TI 50=some (NG):=by kernel_rfl
theorem ZY:bn 50=true:=by kernel_rfl
theorem Zr:TI 52=some (NH):=by kernel_rfl
theorem ZZ:bn 52=true:=by kernel_rfl
theorem Zt:TI 55=some (NI):=by kernel_rfl
theorem Z4:bn 55=true:=by kernel_rfl
theorem i154:TI 80=some (JB):=by kernel_rfl
theorem ZU:bn 80=true:=by kernel_rfl
theorem Zu:TI 129=some (JJ):=by kernel_rfl
theorem Z5:bn 129=true:=by kernel_rfl
theorem Zv:TI 130=some (NU):=by kernel_rfl
theorem Z6:bn 130=true:=by kernel_rfl
theorem i117:TI 39=none:=by kernel_rfl
theorem ZF:TI 140=none:=by kernel_rfl
end
section
section
variable {E:Calls'}(h113:∀ p:Pol,p.ok->∀ h,E 113 [ag p.c] h=some (ag p.own.c,h))
include h113
def Vw.own (v:Vw):Vw:={ v with policies:=⟨v.policies.nl,v.policies.l.map Pol.own⟩ }
end
section
variable {E:Calls'}
theorem XF (a:Int)(h:Hp):Sm E TI bn 142 [.d (u64 a)] h=some (.d (u64 a),h):=by
 rw [aQ ZM ab1];simp [aa,Oh]
theorem Gi {s:Sl Int}{i:Nat}(hi:i<s.l.length){kd:IntKind}{h:Hp}:cZ none 1 (.d (s.d aR)) (.d (.int kd i)) h=some (.eptr (aR s.l[i]) 0,h) :=
 sZ (cells:=aR) (λ_=>rfl) hi
theorem XQ {s:Sl Int}(hs:s.l.length<2 ^ 62)(most:Int):∀ (m i:Nat),i+m=s.l.length->1<=i →
 Cd E TI bn (.loop [0,1,2,9,10] iG) [(0,.d (s.d aR)),(1,.d (i64 most)),(2,.fn 142 []),(9,.d (i64 s.l.length)),(10,.d (i64 i))] ⟨[],0⟩ =
  if aX (s.l.drop (i-1)) then some (.exit 0,[(0,.d (s.d aR)),(1,.d (i64 most))],⟨[],0⟩) else some (.ret,[(6,bl false)],⟨[],0⟩):=by
 intro m;have key:=aF (E:=E) (T:=TI) (val:=bn) [0,1,2,9,10] iG;generalize Cd E TI bn (.loop [0,1,2,9,10] iG)=W at key ⊢
 induction m with
 | zero =>
  intro i hi h1;rw [key,pF (by omega)];simp [iG,show ¬ ((i:Int)<s.l.length) from by omega]
 | succ m ih =>
  intro i hi h1;have hlt:i<s.l.length:=by omega
  have hd:=nk (l:=s.l) (i:=i-1) (by omega);have hs1:i-1+1=i:=by omega
  simp only [hs1] at hd;have hp1:=λh=>Gi hlt (kd:=.i64) (h:=h);have hp0:=λh=>Gi (show i-1<s.l.length by omega) (kd:=.i64) (h:=h);have c1:=XF (E:=E);have hw:=ay hlt hs;have hwm:wrap .i64 ((i:Int)-1)=((i-1:Nat):Int):=by rw [wrap64]<;>omega
  have hpos:0<i:=h1;have hih:=ih (i+1) (by omega) (by omega);simp only [show i+1-1=i by omega] at hih;rw [key,hd];generalize s.l[i]=y at *;generalize s.l[i-1]=x at *;by_cases hg:x<y
  . simp +decide [iG,hp1,hp0,aR,hwm,hw,hpos,c1,hlt,hg,az,ae,aL,show ¬ (x>=y) from by omega];simpa using hih
  . simp +decide [iG,hp1,hp0,aR,hwm,hw,hpos,c1,hlt,hg,az,ae,aL,show x>=y from by omega]
theorem IG {s:Sl Int}(hs:s.l.length<2 ^ 62)(most:Int)(h:Hp):Sm E TI bn 141 [.d (s.d aR),.d (i64 most),.fn 142 []] h=some (bl (aX s.l&&decide ((s.l.length:Int)<=most)),h):=by
 rw [aQ ZL ab0];have hfr:frz h (.fn 142 [])=some (.fn 142 []):=rfl;have key:=aF (E:=E) (T:=TI) (val:=bn) [0,1,2,9,10] iG;have hl:=XQ (E:=E) hs most;simp [aa,JW,hfr];rw [au];simp only [ou,rC];simp;generalize Cd E TI bn (.loop [0,1,2,9,10] iG)=W at key hl ⊢;by_cases h0:s.l=[]
 . rw [key];simp [iG,h0,aX,eX]
 . have hpos:0<s.l.length:=List.length_pos_iff.2 h0;have h1:=hl (s.l.length-1) 1 (by omega) (by omega);simp at h1;rw [key];have hw:=ay hpos hs;simp at hw;simp +decide [iG,az,aL,hpos,hw,h1];cases aX s.l<;>simp [eX]
theorem XR {s:Sl Int}(hs:short s)(n:Int)(h:Hp):∀ (m i:Nat),i+m=s.l.length →
 Cd E TI bn (.loop [0,1,7,8] lW) [(0,.d (s.d aR)),(1,.d (u64 n)),(7,.d (i64 s.l.length)),(8,.d (i64 i))] h =
  match (s.l.drop i).findIdx? (λx=>x==n) with
  | some k=>some (.ret,[(4,.d (i64 (i+k:Nat)))],h)
  | none=>some (.exit 0,[],h):=by
 have hlt:=hs.lt;intro m;have key:=aF (E:=E) (T:=TI) (val:=bn) [0,1,7,8] lW;generalize Cd E TI bn (.loop [0,1,7,8] lW)=W at key ⊢
 induction m with
 | zero =>
  intro i hi;have h0:s.l.drop i=[]:=aq (by omega);rw [key];simp [lW,h0,show ¬ ((i:Int)<s.l.length) from by omega]
 | succ m ih =>
  intro i hi;have h1:i<s.l.length:=by omega
  have hx:=λh=>av (z:=1) h (ab h1) (cells:=aR) rfl;have hw:=ay h1 hlt;have:=ih (i+1) (by omega);rw [key,ap h1];generalize s.l[i]=x at *;by_cases hq:x=n
  . simp [lW,hx,hq,aR,List.findIdx?_cons,show ((i:Int)<s.l.length) from by omega]
  . have hq':(x==n)=false:=by simpa using hq
    have hq2:¬ n=x:=λh=>hq h.symm;simp [lW,hx,hq',hq,hq2,aR,hw,List.findIdx?_cons,show ((i:Int)<s.l.length) from by omega];rw [show ((i:Int)+1)=((i+1:Nat):Int) from by omega,this];cases hfi:(s.l.drop (i+1)).findIdx? (λp=>p==n) with
    | none=>rfl
    | some k=>simp; omega
theorem PI {s:Sl Int}(hs:short s)(n:Int)(h:Hp):Sm E TI bn 149 [.d (s.d aR),.d (u64 n)] h=some (.d (i64 (gY s.l λx=>x==n)),h):=by
 rw [aQ ZR ab6];have k1:=λh=>XR (E:=E) hs n h s.l.length 0 (by omega);simp at k1;simp [aa,Oi];rw [au];simp [k1,gY];cases s.l.findIdx? (λx=>x==n) with
 | none=>simp
 | some k=>simp
theorem E9 {s:Sl Int}(hs:short s)(n:Int)(h:Hp):Sm E TI bn 94 [.d (s.d aR),.d (u64 n)] h=some (bl (bE s.l n),h):=by
 rw [aQ ZK aa9];obtain ⟨g1,g2⟩ | ⟨k,p,g1,g2,g3⟩:=fe s.l (λx=>x==n)
 . simp [aa,JL,PI hs,g2,bE,g1]
 . simp [aa,JL,PI hs,g2,bE,g1]
theorem LJ (p:Pod)(h:Hp):Sm E TI bn 48 [ag p.c] h=some (.d (u64 p.uid),h):=by rw [aQ Zq ZX]; simp [aa,NF]
theorem LK (p:Svc)(h:Hp):Sm E TI bn 50 [ag p.c] h=some (.d (u64 p.id),h):=by rw [aQ i168 ZY]; simp [aa,NG]
theorem LM (p:Way)(h:Hp):Sm E TI bn 52 [ag p.c] h=some (.d (u64 p.id),h):=by rw [aQ Zr ZZ]; simp [aa,NH]
theorem LP (p:Pol)(h:Hp):Sm E TI bn 55 [ag p.c] h=some (.d (u64 p.id),h):=by rw [aQ Zt Z4]; simp [aa,NI]
theorem XB (p:Pod)(h:Hp):Sm E TI bn 132 [ag p.c] h=some (bl (bS p),h):=by
 rw [aQ Zw Z7];unfold bS;by_cases a1:(p.ns.size:Int)>64
 case pos=>simp +decide [aa,Aa,a1]
 by_cases a2:(p.sa.size:Int)>64
 case pos=>simp +decide [aa,Aa,a1,a2]
 by_cases a3:p.host<0
 case pos=>simp +decide [aa,Aa,a1,a2,a3]
 by_cases a4:p.host>9
 case pos=>simp +decide [aa,Aa,a1,a2,a3,a4]
 by_cases a5:p.port<0
 case pos=>simp +decide [aa,Aa,a1,a2,a3,a4,a5]
 simp +decide [aa,Aa,a1,a2,a3,a4,a5]
theorem XC (p:Svc)(h:Hp):Sm E TI bn 133 [ag p.c] h=some (bl (dP p),h):=by
 rw [aQ Zx Z8];unfold dP;by_cases a1:(p.ns.size:Int)>64
 case pos=>simp +decide [aa,G8,a1]
 by_cases a2:p.port<0
 case pos=>simp +decide [aa,G8,a1,a2]
 simp +decide [aa,G8,a1,a2]
theorem XD (p:Way)(h:Hp):Sm E TI bn 134 [ag p.c] h=some (bl (eD p),h):=by
 rw [aQ Zy Z9];unfold eD;by_cases a1:p.node<0
 case pos=>simp +decide [aa,JK,a1]
 simp +decide [aa,JK,a1]
theorem XA (a:Int)(h:Hp):Sm E TI bn 130 [.d (u32 a)] h=some (.d (u32 a),h):=by
 rw [aQ Zv Z6];simp [aa,NU]
theorem Qg {s:Sl Int}(hs:s.l.length<2 ^ 62)(most:Int):∀ (m i:Nat),i+m=s.l.length->1<=i →
 Cd E TI bn (.loop [0,1,2,9,10] iE) [(0,.d (s.d bz)),(1,.d (i64 most)),(2,.fn 130 []),(9,.d (i64 s.l.length)),(10,.d (i64 i))] ⟨[],0⟩ =
  if aX (s.l.drop (i-1)) then some (.exit 0,[(0,.d (s.d bz)),(1,.d (i64 most))],⟨[],0⟩) else some (.ret,[(6,bl false)],⟨[],0⟩):=by
 intro m;have key:=aF (E:=E) (T:=TI) (val:=bn) [0,1,2,9,10] iE;generalize Cd E TI bn (.loop [0,1,2,9,10] iE)=W at key ⊢
 induction m with
 | zero =>
  intro i hi h1;rw [key,pF (by omega)];simp [iE,show ¬ ((i:Int)<s.l.length) from by omega]
 | succ m ih =>
  intro i hi h1;have hlt:i<s.l.length:=by omega
  have hd:=nk (l:=s.l) (i:=i-1) (by omega);have hs1:i-1+1=i:=by omega
  simp only [hs1] at hd;have hp1:=λh=>Gh hlt (kd:=.i64) (h:=h);have hp0:=λh=>Gh (show i-1<s.l.length by omega) (kd:=.i64) (h:=h);have c1:=XA (E:=E);have hw:=ay hlt hs;have hwm:wrap .i64 ((i:Int)-1)=((i-1:Nat):Int):=by rw [wrap64]<;>omega
  have hpos:0<i:=h1;have hih:=ih (i+1) (by omega) (by omega);simp only [show i+1-1=i by omega] at hih;rw [key,hd];generalize s.l[i]=y at *;generalize s.l[i-1]=x at *;by_cases hg:x<y
  . simp +decide [iE,hp1,hp0,bz,hwm,hw,hpos,c1,hlt,hg,az,ae,aL,show ¬ (x>=y) from by omega];simpa using hih
  . simp +decide [iE,hp1,hp0,bz,hwm,hw,hpos,c1,hlt,hg,az,ae,aL,show x>=y from by omega]
theorem Xz {s:Sl Int}(hs:s.l.length<2 ^ 62)(most:Int)(h:Hp):Sm E TI bn 129 [.d (s.d bz),.d (i64 most),.fn 130 []] h=some (bl (aX s.l&&decide ((s.l.length:Int)<=most)),h):=by
 rw [aQ Zu Z5];have hfr:frz h (.fn 130 [])=some (.fn 130 []):=rfl;have key:=aF (E:=E) (T:=TI) (val:=bn) [0,1,2,9,10] iE;have hl:=Qg (E:=E) hs most;simp [aa,JJ,hfr];rw [au];simp only [ou,rC];simp;generalize Cd E TI bn (.loop [0,1,2,9,10] iE)=W at key hl ⊢;by_cases h0:s.l=[]
 . rw [key];simp [iE,h0,aX,eX]
 . have hpos:0<s.l.length:=List.length_pos_iff.2 h0;have h1:=hl (s.l.length-1) 1 (by omega) (by omega);simp at h1;rw [key];have hw:=ay hpos hs;simp at hw;simp +decide [iE,az,aL,hpos,hw,h1];cases aX s.l<;>simp [eX]
variable (h117:∀ s:Sl Int,short s->∀ n h,E 39 [.d (s.d bz),.d (u32 n)] h=some (bl (bE s.l n),h))
include h117 in
theorem Xw {s:Sl Int}(hs:short s)(most:Int)(h:Hp):Sm E TI bn 80 [.d (s.d bz),.d (i64 most)] h=some (bl (nG s.l most),h):=by
 have m:∀ h,Sm E TI bn 39 [.d (s.d bz),.d (u32 0)] h=some (bl (bE s.l 0),h):=λh=>by rw [aU i117]; exact h117 _ hs 0 h
 rw [aQ i154 ZU];cases e:(aX s.l&&decide ((s.l.length:Int)<=most))<;>simp +decide [aa,JB,Xz hs.lt most,m,e,nG,az,ae,aL,aA]
variable (h263:∀ p:Pol,p.wf big->∀ h,E 140 [ag p.c] h=some (bl (dw p),h))
include h263 in
theorem XE (p:Pol)(hw:p.wf big)(h:Hp):Sm E TI bn 139 [ag p.c] h=some (bl (!dw p),h):=by
 have m:∀ h,Sm E TI bn 140 [ag p.c] h=some (bl (dw p),h):=λh=>by rw [aU ZF]; exact h263 p hw h
 rw [aQ ZE aa4];simp +decide [aa,NZ,m]
include h117 h263 in
theorem PH (v:Vw)(hv:v.ok)(hw:∀ p∈v.policies.l,p.wf big)(h:Hp):Sm E TI bn 87 [.d (u64 v.epoch),.d (v.covers.d bz),.d (v.pods.d Pod.c),.d (v.services.d Svc.c),.d (v.bound.d Way.c),.d (v.policies.d Pol.c)] h=some (bl (bg v),h):=by
 have k1:∀ h,Sm E TI bn 80 [.d (v.covers.d bz),.d (i64 38)] h=some (bl (nG v.covers.l 38),h):=λh=>Xw h117 hv.1 38 h;have a1:∀ h,Sm E TI bn 95 [.d (v.pods.d Pod.c),.fn 132 []] h=some (bl (v.pods.l.any bS),h):=λh =>
  qX i143 R8 rfl rfl (rX Pod.c (z:=7) Ry RZ RD Sa (RowIs.of (cells:=Pod.c) (λ_=>rfl) _) hv.2.1.lt λe he lo=>XB e _)
 have a2:∀ h,Sm E TI bn 102 [.d (v.services.d Svc.c),.fn 133 []] h=some (bl (v.services.l.any dP),h):=λh =>
  qX RA R7 rfl rfl (rX Svc.c (z:=5) Rz R5 RB R9 (RowIs.of (cells:=Svc.c) (λ_=>rfl) _) hv.2.2.1.lt λe he lo=>XC e _)
 have a3:∀ h,Sm E TI bn 108 [.d (v.bound.d Way.c),.fn 134 []] h=some (bl (v.bound.l.any eD),h):=λh =>
  qX RG Sb rfl rfl (rX Way.c (z:=2) i109 R6 RL Si (RowIs.of (cells:=Way.c) (λ_=>rfl) _) hv.2.2.2.1.lt λe he lo=>XD e _)
 have a4:∀ h,Sm E TI bn 115 [.d (v.policies.d Pol.c),.fn 139 []] h=some (bl (v.policies.l.any λp=>!dw p),h):=λh =>
  qX RH Sc rfl rfl (rX Pol.c (z:=5) RJ Sg RI Sd (RowIs.of (cells:=Pol.c) (λ_=>rfl) _) hv.2.2.2.2.1.lt λe he lo=>XE h263 e (hw e he) _)
 have b1:=λh=>wW (E:=E) Zz aa0 (s:=v.pods) (cells:=Pod.c) (most:=16) (λ_=>rfl) hv.2.1.lt (λe _ h=>LJ e h) h;have b2:=λh=>wW (E:=E) ZA aa1 (s:=v.services) (cells:=Svc.c) (most:=6) (λ_=>rfl) hv.2.2.1.lt (λe _ h=>LK e h) h;have b3:=λh=>wW (E:=E) ZB aa2 (s:=v.bound) (cells:=Way.c) (most:=4) (λ_=>rfl) hv.2.2.2.1.lt (λe _ h=>LM e h) h;have b4:=λh=>wW (E:=E) ZC aa3 (s:=v.policies) (cells:=Pol.c) (most:=12) (λ_=>rfl) hv.2.2.2.2.1.lt (λe _ h=>LP e h) h;unfold bg qU Jq;generalize nG v.covers.l 38=C at *;generalize v.pods.l.any bS=A1 at *;generalize v.services.l.any dP=A2 at *;generalize v.bound.l.any eD=A3 at *;generalize (v.policies.l.any λp=>!dw p)=A4 at *;generalize lu Pod.uid v.pods.l 16=B1 at *;generalize lu Svc.id v.services.l 6=B2 at *;generalize lu Way.id v.bound.l 4=B3 at *;generalize lu Pol.id v.policies.l 12=B4 at *;rw [aQ i162 ZV];have hodd:∃ o,(A1||(A2||A3))=o:=⟨_,rfl⟩;obtain ⟨o,ho⟩:=hodd;by_cases m1:v.epoch<=4611686018427387903
 . cases A1<;>cases A2<;>cases A3<;>simp at ho<;>subst ho<;>first
    | (cases C<;>simp +decide [aa,rE,a1,a2,a3,a4,k1,m1]; done)
    | (cases B1
       case false=>cases C<;>simp +decide [aa,rE,a1,a2,a3,a4,b1,k1,m1]
       cases B2
       case false=>cases C<;>simp +decide [aa,rE,a1,a2,a3,a4,b1,b2,k1,m1]
       cases B3
       case false=>cases C<;>simp +decide [aa,rE,a1,a2,a3,a4,b1,b2,b3,k1,m1]
       cases B4<;>cases C<;>simp +decide [aa,rE,a1,a2,a3,a4,b1,b2,b3,b4,k1,m1])
 . cases A1<;>cases A2<;>cases A3<;>first
    | (simp +decide [aa,rE,a1,a2,a3,a4,m1]; done)
    | (cases B1
       case false=>simp +decide [aa,rE,a1,a2,a3,a4,b1,m1]
       cases B2
       case false=>simp +decide [aa,rE,a1,a2,a3,a4,b1,b2,m1]
       cases B3
       case false=>simp +decide [aa,rE,a1,a2,a3,a4,b1,b2,b3,m1]
       simp +decide [aa,rE,a1,a2,a3,a4,b1,b2,b3,b4,m1])
include h117 h263 in
theorem I75 (v:Vw)(hv:v.ok)(hw:∀ p∈v.policies.l,p.wf big)(h:Hp):Sm E TI bn 45 [v.v] h=some (bl (bg v),h):=by
 have k2:=λh=>PH h117 h263 v hv hw h;rw [aQ i75 j75];simp +decide [aa,q75,k2]
def dL (d:Dlt):Bool:=(jE Pod.uid d.gonePods.l 16 d.pods.l&&(jE Svc.id d.goneServices.l 6 d.services.l&&(jE Way.id d.goneBound.l 4 d.bound.l&&jE Pol.id d.gonePolicies.l 12 d.policies.l)))&&bg d.vw
include h117 h263 in
theorem Xx (d:Dlt)(hd:d.ok)(hw:∀ p∈d.policies.l,p.wf big)(h:Hp):Sm E TI bn 46 [d.v] h=some (bl (dL d),h):=by
 have k2:=λh=>PH h117 h263 d.vw hd.1 hw h;obtain ⟨hv,g1,g2,g3,g4⟩:=hd;have c1:=λn h=>E9 (E:=E) g1 n h;have c2:=λn h=>E9 (E:=E) g2 n h;have c3:=λn h=>E9 (E:=E) g3 n h;have c4:=λn h=>E9 (E:=E) g4 n h;have n1:=λh=>wV (E:=E) (T:=TI) (val:=bn) (cells:=Pod.c) (z:=7) (key:=Pod.uid) (idf:=48) ZG aa5 ZN ab2 i143 R8 RD Sa Ry RZ (λ_=>rfl) (gone:=d.gonePods) (most:=16) (λh=>IG g1.lt 16 h) c1 (l:=d.pods) hv.2.1 (λe _ h=>LJ e h) h;have n2:=λh=>wV (E:=E) (T:=TI) (val:=bn) (cells:=Svc.c) (z:=5) (key:=Svc.id) (idf:=50) ZH aa6 ZO ab3 RA R7 RB R9 Rz R5 (λ_=>rfl) (gone:=d.goneServices) (most:=6) (λh=>IG g2.lt 6 h) c2 (l:=d.services) hv.2.2.1 (λe _ h=>LK e h) h;have n3:=λh=>wV (E:=E) (T:=TI) (val:=bn) (cells:=Way.c) (z:=2) (key:=Way.id) (idf:=52) ZI aa7 ZP ab4 RG Sb RL Si i109 R6 (λ_=>rfl) (gone:=d.goneBound) (most:=4) (λh=>IG g3.lt 4 h) c3 (l:=d.bound) hv.2.2.2.1 (λe _ h=>LM e h) h;have n4:=λh=>wV (E:=E) (T:=TI) (val:=bn) (cells:=Pol.c) (z:=5) (key:=Pol.id) (idf:=55) ZJ aa8 ZQ ab5 RH Sc RI Sd RJ Sg (λ_=>rfl) (gone:=d.gonePolicies) (most:=12) (λh=>IG g4.lt 12 h) c4 (l:=d.policies) hv.2.2.2.2.1 (λe _ h=>LP e h) h;simp only [Dlt.vw] at k2;unfold dL;simp only [Dlt.vw];generalize jE Pod.uid d.gonePods.l 16 d.pods.l=A1 at *;generalize jE Svc.id d.goneServices.l 6 d.services.l=A2 at *
 generalize jE Way.id d.goneBound.l 4 d.bound.l=A3 at *;generalize jE Pol.id d.gonePolicies.l 12 d.policies.l=A4 at *;generalize bg _=M at *;rw [aQ i164 ZW];cases A1
 case false=>simp +decide [aa,z8,n1]
 cases A2
 case false=>simp +decide [aa,z8,n1,n2]
 cases A3
 case false=>simp +decide [aa,z8,n1,n2,n3]
 cases A4
 case false=>simp +decide [aa,z8,n1,n2,n3,n4]
 simp +decide [aa,z8,n1,n2,n3,n4,k2]
def Vw.same (a b:Vw):Bool:=a.epoch==b.epoch&&(all2 (λx y:Int=>x==y) a.covers.l b.covers.l&&(all2 Pod.eqB a.pods.l b.pods.l&&(all2 Svc.eqB a.services.l b.services.l&&(all2 Way.eqB a.bound.l b.bound.l&&all2 Pol.same a.policies.l b.policies.l))))
end
end
section
theorem aY {α:Type}{key:α->Int}{l:List α}{n:Int}(h:lu key l n=true):(l.map key).Nodup/\(l.length:Int)<=n:=by
 simp only [lu,ao,br] at h;exact ⟨(ny h.1).imp λh=>by omega,h.2⟩
theorem ku {α:Type}{key:α->Int}{l fresh:List α}{gone:List Int}(h1:(l.map key).Nodup)(h2:(fresh.map key).Nodup):(((l.filter (fI key fresh gone))++fresh).map key).Nodup:=by
 rw [List.map_append,List.nodup_append];refine ⟨List.Pairwise.sublist (List.Sublist.map key List.filter_sublist) h1,h2,?_⟩;intro a ha b hb hab;obtain ⟨e,he,rfl⟩:=b9.1 ha;obtain ⟨f,hf,rfl⟩:=b9.1 hb;have:=(List.mem_filter.1 he).2;simp only [fI,ao,Bool.not_eq_true',List.any_eq_false] at this;have h3:=this.2 f hf;simp [hab] at h3
theorem uV {α:Type}{key:α->Int}{l fresh:List α}{gone:List Int}{e:α}(h:e∈bL key l fresh gone):e∈l\/e∈fresh:=by
 have:=(List.mergeSort_perm _ _).mem_iff.1 h;obtain h | h:=List.mem_append.1 this
 . exact .inl (List.mem_filter.1 h).1
 . exact .inr h
theorem eY {α:Type}{key:α->Int}{l fresh:List α}{gone:List Int}:(bL key l fresh gone).length<=l.length+fresh.length:=by
 have:=List.length_filter_le (fI key fresh gone) l;rw [bL,List.length_mergeSort,am];omega
theorem nI {v:Vw}(h:bg v=true):lu Pod.uid v.pods.l 16=true/\lu Svc.id v.services.l 6=true/\lu Way.id v.bound.l 4=true/\lu Pol.id v.policies.l 12=true:=by
 simp only [bg,qU,ao] at h;exact h.2.2.1.2
end
section
structure PutR (E:Calls'):Prop where
 h75:∀ v:Vw,v.ok->(∀ p∈v.policies.l,p.wf big)->∀ a h,frz h a=some v.v->E 45 [a] h=some (bl (bg v),h)
 h164:∀ d:Dlt,d.ok->(∀ p∈d.policies.l,p.wf big)->∀ h,E 46 [d.v] h=some (bl (dL d),h)
 h231:∀ r:Rule,r.fits big->∀ h,E 163 [ag r.c] h=some (ag r.own.c,h)
 h269:∀ s:Sl Int,short s->∀ n h,E 94 [.d (s.d aR),.d (u64 n)] h=some (bl (bE s.l n),h)
 h166:∀ (p:Pod) h,E 48 [ag p.c] h=some (.d (u64 p.uid),h)
 h168:∀ (p:Svc) h,E 50 [ag p.c] h=some (.d (u64 p.id),h)
 h170:∀ (p:Way) h,E 52 [ag p.c] h=some (.d (u64 p.id),h)
 h172:∀ (p:Pol) h,E 55 [ag p.c] h=some (.d (u64 p.id),h)
 h271:∀ {h:Hp} {B n k:Nat} {cap:Option Nat},0<n->E 97 [.row B 0 n cap 7,.fn 98 [.ptr k 0]] h=ed ⟨7,0,98,48⟩ [.row B 0 n cap 7,.fn 98 [.ptr k 0]] h
 n271:∀ v k,v=.d (.slice true [])\/(∃ B cap,v=.row B 0 0 cap 7)->∀ h,E 97 [v,.fn 98 [.ptr k 0]] h=some (.tup [],h)
 h276:∀ {h:Hp} {B n k:Nat} {cap:Option Nat},0<n->E 104 [.row B 0 n cap 5,.fn 105 [.ptr k 0]] h=ed ⟨5,0,105,50⟩ [.row B 0 n cap 5,.fn 105 [.ptr k 0]] h
 n276:∀ v k,v=.d (.slice true [])\/(∃ B cap,v=.row B 0 0 cap 5)->∀ h,E 104 [v,.fn 105 [.ptr k 0]] h=some (.tup [],h)
 h280:∀ {h:Hp} {B n k:Nat} {cap:Option Nat},0<n->E 110 [.row B 0 n cap 2,.fn 111 [.ptr k 0]] h=ed ⟨2,0,111,52⟩ [.row B 0 n cap 2,.fn 111 [.ptr k 0]] h
 n280:∀ v k,v=.d (.slice true [])\/(∃ B cap,v=.row B 0 0 cap 2)->∀ h,E 110 [v,.fn 111 [.ptr k 0]] h=some (.tup [],h)
 h284:∀ {h:Hp} {B n k:Nat} {cap:Option Nat},0<n->E 117 [.row B 0 n cap 5,.fn 118 [.ptr k 0]] h=ed ⟨5,0,118,55⟩ [.row B 0 n cap 5,.fn 118 [.ptr k 0]] h
 n284:∀ v k,v=.d (.slice true [])\/(∃ B cap,v=.row B 0 0 cap 5)->∀ h,E 117 [v,.fn 118 [.ptr k 0]] h=some (.tup [],h)
end
section
section
variable {α:Type}{key:α->Int}
theorem Eo {l fresh:List α}{gone:List Int}(h1:(l.map key).Nodup)(h2:(fresh.map key).Nodup):((bL key l fresh gone).map key).Pairwise (·<·):=by
 have hn:=ku (gone:=gone) h1 h2;have hp:(bL key l fresh gone).Perm ((l.filter (fI key fresh gone))++fresh):=List.mergeSort_perm _ _;have hn2:((bL key l fresh gone).map key).Nodup:=(hp.map key).nodup_iff.2 hn;have hs:=List.pairwise_mergeSort (le:=λ(a b:α)=>decide (key a<=key b)) (by intro a b c h1 h2; simp at *; omega) (by intro a b; simp; omega) ((l.filter (fI key fresh gone))++fresh);have hs2:((bL key l fresh gone).map key).Pairwise (·<=·):=by
  rw [List.pairwise_map];exact hs.imp λh=>by simpa using h
 refine (hs2.and hn2).imp λ⟨h,h'⟩=>?_;have:_≠_:=h';omega
end
end
section
theorem Pol.own_nf (p:Pol):p.own.nf=p.nf:=Pol.same_iff.1 (own_same p)
def Vw.nf (v:Vw):Vw:=⟨v.epoch,v.covers.nf id,v.pods.nf id,v.services.nf id,v.bound.nf id,v.policies.nf Pol.nf⟩
theorem Vw.same_iff {a b:Vw}:a.same b=true↔a.nf=b.nf:=by
 simp only [Vw.same,ao,beq_iff_eq,zy,dx (g:=id) (λx y=>Pod.eqB_iff (x:=x) (y:=y)),dx (g:=id) (λx y=>Svc.eqB_iff (x:=x) (y:=y)),dx (g:=id) (λx y=>Way.eqB_iff (x:=x) (y:=y)),dx (λx y=>Pol.same_iff (a:=x) (b:=y)),Vw.nf,Vw.mk.injEq,Sl.nf_iff]
theorem eZ (v:Vw):bg v.nf=bg v:=by
 have h1:(v.policies.l.map Pol.nf).any (λp=>!dw p)=v.policies.l.any λp=>!dw p:=by
  rw [List.any_map]; congr 1; funext p; simp [El]
 have h2:(v.policies.l.map Pol.nf).map Pol.id=v.policies.l.map Pol.id:=by rw [List.map_map]; rfl
 simp only [bg,Vw.nf,Sl.nf,qU,Jq,lu,h1,h2,List.map_id,bx]
end
section
section
variable {E:Calls'}{T:FuncId->Option QF}{val:FuncId->Bool}
theorem yK {α:Type}{cells:α->List D}{z b:Nat}{zero:List V}{id:FuncId}(ht:T id=some (cloneQ z b zero))(hv:val id=false)(hz0:0<z)(hb:b<=4096)(hz:∀ x,(cells x).length=z){l:List α}(hl:l.length<=big){K:Nat->Prop}{bs:List Blk}{v:V}(hr:RowG K bs z (l.map λx=>(cells x).map V.d) v) :
 ∃ v' m,Sm E T val id [v] ⟨bs,bs.length⟩=some (v',⟨m,bs.length⟩)/\bs.length<=m.length/\(∀ x,x<bs.length->m[x]?=bs[x]?)/\Row1 bs.length m.length m z (l.map cells) v':=by
 have hw:∀ e∈l.map cells,e.length=z:=λe he=>by obtain ⟨y,_,rfl⟩:=b9.1 he; exact hz y
 obtain ⟨h1,rfl⟩ | ⟨B,cap,rest,h1,rfl,h3⟩:=hr
 . have hl0:l=[]:=by simpa using h1
   subst hl0;exact kE ht hv hz0 hb hz (s:=⟨true,[]⟩) ⟨by simp,λ_=>rfl⟩ bs
 . rw [← wo] at h3;have key:=AR (E:=E) (T:=T) (val:=val) ht hv hz0 hb hw (by simpa using hl) ⟨bs,bs.length⟩ (cap:=cap) h3;simp only [bx] at key ⊢;rw [key];cases hc:l.map cells with
   | nil=>exact ⟨.row bs.length 0 0 (some 0) z,bs++[.cells []],by simp [cloneR],by simp,λx hx=>al hx,by simp,.inr ⟨bs.length,some 0,bp _,by simp,rfl,by simp,.inr ⟨rfl,rfl⟩⟩⟩
   | cons e es =>
    refine ⟨.row (bs.length+1) 0 (es.length+1) none z,bs++[.cells [],.cells (flat (e::es))],by simp [cloneR],by simp,λx hx=>al hx,by rw [← hc]; exact hw,.inr ⟨bs.length+1,none,by omega,by simp,rfl,?_,.inl ⟨rfl,by simp⟩⟩⟩;have:=iy (bs:=bs) (ys:=[.cells [],.cells (flat (e::es))]) (i:=1);rw [this]; rfl
end
section
variable {E:Calls'}(H:PutR E)
include H
def lm (v:Vw)(d:Dlt):Vw:=⟨d.epoch,d.covers,⟨false,bL Pod.uid v.pods.l d.pods.l d.gonePods.l⟩,⟨false,bL Svc.id v.services.l d.services.l d.goneServices.l⟩,⟨false,bL Way.id v.bound.l d.bound.l d.goneBound.l⟩,⟨false,(bL Pol.id v.policies.l d.policies.l d.gonePolicies.l).map Pol.own⟩⟩
end
end
section
variable {E:Calls'}
def Vv:List (Nat×QF):=[(26,q84),(56,uW),(57,NJ),(58,NK),(59,NL),(60,NM),(119,NQ)]
def TDp:FuncId->Option QF:=iN Vv
def bJ (f:FuncId):Bool:=[26,56,57,58,59,60,119].any λn=>Nat.beq n f
theorem QT:TDp 56=some uW:=by kernel_rfl
theorem QZ:bJ 56=true:=by kernel_rfl
theorem QU:TDp 57=some NJ:=by kernel_rfl
theorem Q0:bJ 57=true:=by kernel_rfl
theorem QV:TDp 58=some NK:=by kernel_rfl
theorem Q3:bJ 58=true:=by kernel_rfl
theorem QW:TDp 59=some NL:=by kernel_rfl
theorem Q4:bJ 59=true:=by kernel_rfl
theorem QX:TDp 60=some NM:=by kernel_rfl
theorem Q5:bJ 60=true:=by kernel_rfl
theorem QY:TDp 119=some NQ:=by kernel_rfl
theorem Q6:bJ 119=true:=by kernel_rfl
def rizQ (L:List Int)(i:Nat)(x:Int):Bool:=!(x==0)&&(i==0||decide ((L[i-1]?).getD 0<x))
theorem yU (L:List Int):∀ (l:List Int) (i:Nat) (p:Int),L.drop (i+1)=l->L[i]?=some p->fK (rizQ L) (i+1) l=(aX (p::l)&&!bE l 0)
 | [],i,p,_,_=>rfl
 | x::l,i,p,hd,hp=>by
  have hx:L[i+1]?=some x:=by rw [← List.head?_drop,hd]; rfl
  have ih:=yU L l (i+1) x (by rw [← List.tail_drop,hd]; rfl) hx;rw [fK,ih];simp only [rizQ,Nat.add_sub_cancel,hp,Option.getD_some,aX,bE,List.find?_cons,show (i+1==0)=false from rfl,Bool.false_or];by_cases h0:x=0
  . simp [h0]
  . have:(x==0)=false:=by simpa using h0
    simp [this,Bool.and_assoc]
theorem Dr (L:List Int):fK (rizQ L) 0 L=(aX L&&!bE L 0):=by
 cases L with
 | nil=>rfl
 | cons p l =>
  have:=yU (p::l) l 0 p rfl rfl;rw [fK,this];simp only [rizQ,bE,List.find?_cons];by_cases h0:p=0
  . simp [h0]
  . have:(p==0)=false:=by simpa using h0
    simp [this]
theorem X8 {s:Sl Int}(hs:short s)(h:Hp):Sm E TDp bJ 119 [.d (s.d bz)] h=some (bl (aX s.l&&!bE s.l 0),h):=by
 have hlt:=hs.lt;have key:=λh=>lg (E:=E) (T:=TDp) (val:=bJ) (keep:=[0,3]) (body:=kJ) s.l (rizQ s.l) (λi=>[(0,.d (s.d bz)),(3,.d (i64 i))]) h (.ret,[(2,bl false)],h) (.exit 0,[],h) (λi x hx hi W=>?_) (λW=>?_)
 . rw [aQ QY Q6];have key:=λh=>key h;simp only [Dr] at key;simp at key;simp [aa,NQ];rw [au];simp [key];cases (aX s.l&&!bE s.l 0)<;>simp
 . have hsx:=λh=>av (z:=1) h hx (cells:=bz) rfl;have hw:=ay hi hlt;have h0:((i:Int)<s.l.length):=by omega
   cases i with
   | zero =>
    have e0:((0:Nat):Int)=0:=rfl;rw [e0] at hsx;by_cases hz:x=0
    . simp [kJ,hsx,hi,bz,hz,rizQ]
    . simp [kJ,hsx,hi,bz,hz,rizQ,show wrap .i64 1=1 from by rw [wrap64]<;>omega]
   | succ k =>
    have hp:=ab (show k<s.l.length by omega);generalize s.l[k]=p at hp;have hsp:=λh=>av (z:=1) h hp (cells:=bz) rfl;have hw2:wrap .i64 (((k+1:Nat):Int)-1)=(k:Int):=by rw [wrap64]<;>omega
    have hg:((0:Int)<((k+1:Nat):Int)):=by omega
    generalize ((k+1:Nat):Int)=K at hsx hw h0 hw2 hg ⊢;by_cases hz:x=0
    . simp [kJ,hsx,h0,bz,hz,rizQ]
    . by_cases hl:p<x
      . simp [kJ,hsx,hsp,h0,bz,hz,rizQ,hw,hw2,hg,hp,hl,show ¬ x<=p by omega]
      . simp [kJ,hsx,hsp,h0,bz,hz,rizQ,hw,hw2,hg,hp,hl,show x<=p by omega]
 . simp [kJ]
theorem LQ (v:Vw)(hl:v.pods.l.length<2 ^ 62)(bs0:List Blk)(h0:ai bs0 0=some (v.c.map .d)):∃ h',(∃ bs,h'=⟨bs,0⟩/\ai bs 0=some (v.c.map .d))/\Cd E TDp bJ (.loop [1,3] dN) [(1,.ptr 0 0),(3,.d (i64 ((0:Nat):Int)))] ⟨bs0,0⟩=some (cond (fK (λi x=>df Pod.uid v.pods.l i x&&!bS x) 0 v.pods.l) (.exit 0,[(1,.ptr 0 0)],h') (.ret,[(2,bl false)],h')):=by
 refine nH v.pods.l _ (λi=>[(1,.ptr 0 0),(3,.d (i64 i))]) (λh=>∃ bs,h=⟨bs,0⟩/\ai bs 0=some (v.c.map .d)) (.ret,[(2,bl false)]) (.exit 0,[(1,.ptr 0 0)]) (λi x hx hi h hI=>?_) (λh hI W=>?_) _ ⟨_,rfl,h0⟩
 . obtain ⟨bs,rfl,hb⟩:=hI;have hn:=λh=>av (z:=7) h hx (cells:=Pod.c) rfl;have hw:=ay hi hl;have h0:((i:Int)<v.pods.l.length):=by omega
   have hb2:=λys=>aj (ys:=ys) hb;refine ⟨⟨bs++[.cells (x.c.map .d)],0⟩,⟨_,rfl,aj hb⟩,λW=>?_⟩;by_cases a0:(i:Int)>0
   case pos =>
    have a0n:(0<i)=True:=by simp; omega
    obtain ⟨y,j,hij,hy,hj⟩:=qx hl hi a0;have hp:=λh=>av (z:=7) h hy (cells:=Pod.c) rfl;have hk:df Pod.uid v.pods.l i x=decide (y.uid<x.uid):=by subst hij; simp only [df,hy]
    by_cases a01:x.uid<=y.uid
    case pos=>simp +decide [dN,hb,hb2,hn,h0,bS,a0,a0n,hj,hp,hk,a01,show ¬ (y.uid<x.uid) from by omega]
    by_cases c1:x.host<0
    case pos=>simp +decide [dN,hb,hb2,hn,h0,bS,a0,a0n,hj,hp,hk,a01,show (y.uid<x.uid) from by omega,c1]
    by_cases c2:x.host>9
    case pos=>simp +decide [dN,hb,hb2,hn,h0,bS,a0,a0n,hj,hp,hk,a01,show (y.uid<x.uid) from by omega,c1,c2]
    by_cases c3:x.port<0
    case pos=>simp +decide [dN,hb,hb2,hn,h0,bS,a0,a0n,hj,hp,hk,a01,show (y.uid<x.uid) from by omega,c1,c2,c3]
    by_cases c4:x.port>65535
    case pos=>simp +decide [dN,hb,hb2,hn,h0,bS,a0,a0n,hj,hp,hk,a01,show (y.uid<x.uid) from by omega,c1,c2,c3,c4]
    by_cases c5:(x.ns.size:Int)>64
    case pos=>simp +decide [dN,hb,hb2,hn,h0,bS,a0,a0n,hj,hp,hk,a01,show (y.uid<x.uid) from by omega,c1,c2,c3,c4,c5]
    by_cases c6:(x.sa.size:Int)>64
    case pos=>simp +decide [dN,hb,hb2,hn,h0,bS,a0,a0n,hj,hp,hk,a01,show (y.uid<x.uid) from by omega,c1,c2,c3,c4,c5,c6]
    simp +decide [dN,hb,hb2,hn,h0,bS,a0,a0n,hj,hp,hk,a01,show (y.uid<x.uid) from by omega,c1,c2,c3,c4,c5,c6,hw]
   have hk:df Pod.uid v.pods.l i x=true:=ll a0;have a0n:(0<i)=False:=by simp; omega
   by_cases c1:x.host<0
   case pos=>simp +decide [dN,hb,hb2,hn,h0,bS,a0,a0n,hk,c1]
   by_cases c2:x.host>9
   case pos=>simp +decide [dN,hb,hb2,hn,h0,bS,a0,a0n,hk,c1,c2]
   by_cases c3:x.port<0
   case pos=>simp +decide [dN,hb,hb2,hn,h0,bS,a0,a0n,hk,c1,c2,c3]
   by_cases c4:x.port>65535
   case pos=>simp +decide [dN,hb,hb2,hn,h0,bS,a0,a0n,hk,c1,c2,c3,c4]
   by_cases c5:(x.ns.size:Int)>64
   case pos=>simp +decide [dN,hb,hb2,hn,h0,bS,a0,a0n,hk,c1,c2,c3,c4,c5]
   by_cases c6:(x.sa.size:Int)>64
   case pos=>simp +decide [dN,hb,hb2,hn,h0,bS,a0,a0n,hk,c1,c2,c3,c4,c5,c6]
   simp +decide [dN,hb,hb2,hn,h0,bS,a0,a0n,hk,c1,c2,c3,c4,c5,c6,hw]
 . obtain ⟨bs,rfl,hb⟩:=hI;simp [dN,hb]
theorem LU (v:Vw)(hl:v.services.l.length<2 ^ 62)(bs0:List Blk)(h0:ai bs0 0=some (v.c.map .d)):∃ h',(∃ bs,h'=⟨bs,0⟩/\ai bs 0=some (v.c.map .d))/\Cd E TDp bJ (.loop [1,5] gI) [(1,.ptr 0 0),(5,.d (i64 ((0:Nat):Int)))] ⟨bs0,0⟩=some (cond (fK (λi x=>df Svc.id v.services.l i x&&!dP x) 0 v.services.l) (.exit 2,[(1,.ptr 0 0)],h') (.ret,[(2,bl false)],h')):=by
 refine nH v.services.l _ (λi=>[(1,.ptr 0 0),(5,.d (i64 i))]) (λh=>∃ bs,h=⟨bs,0⟩/\ai bs 0=some (v.c.map .d)) (.ret,[(2,bl false)]) (.exit 2,[(1,.ptr 0 0)]) (λi x hx hi h hI=>?_) (λh hI W=>?_) _ ⟨_,rfl,h0⟩
 . obtain ⟨bs,rfl,hb⟩:=hI;have hn:=λh=>av (z:=5) h hx (cells:=Svc.c) rfl;have hw:=ay hi hl;have h0:((i:Int)<v.services.l.length):=by omega
   have hb2:=λys=>aj (ys:=ys) hb;refine ⟨⟨bs++[.cells (x.c.map .d)],0⟩,⟨_,rfl,aj hb⟩,λW=>?_⟩;by_cases a0:(i:Int)>0
   case pos =>
    have a0n:(0<i)=True:=by simp; omega
    obtain ⟨y,j,hij,hy,hj⟩:=qx hl hi a0;have hp:=λh=>av (z:=5) h hy (cells:=Svc.c) rfl;have hk:df Svc.id v.services.l i x=decide (y.id<x.id):=by subst hij; simp only [df,hy]
    by_cases a01:x.id<=y.id
    case pos=>simp +decide [gI,hb,hb2,hn,h0,dP,a0,a0n,hj,hp,hk,a01,show ¬ (y.id<x.id) from by omega]
    by_cases c1:x.port<0
    case pos=>simp +decide [gI,hb,hb2,hn,h0,dP,a0,a0n,hj,hp,hk,a01,show (y.id<x.id) from by omega,c1]
    by_cases c2:x.port>65535
    case pos=>simp +decide [gI,hb,hb2,hn,h0,dP,a0,a0n,hj,hp,hk,a01,show (y.id<x.id) from by omega,c1,c2]
    by_cases c3:(x.ns.size:Int)>64
    case pos=>simp +decide [gI,hb,hb2,hn,h0,dP,a0,a0n,hj,hp,hk,a01,show (y.id<x.id) from by omega,c1,c2,c3]
    simp +decide [gI,hb,hb2,hn,h0,dP,a0,a0n,hj,hp,hk,a01,show (y.id<x.id) from by omega,c1,c2,c3,hw]
   have hk:df Svc.id v.services.l i x=true:=ll a0;have a0n:(0<i)=False:=by simp; omega
   by_cases c1:x.port<0
   case pos=>simp +decide [gI,hb,hb2,hn,h0,dP,a0,a0n,hk,c1]
   by_cases c2:x.port>65535
   case pos=>simp +decide [gI,hb,hb2,hn,h0,dP,a0,a0n,hk,c1,c2]
   by_cases c3:(x.ns.size:Int)>64
   case pos=>simp +decide [gI,hb,hb2,hn,h0,dP,a0,a0n,hk,c1,c2,c3]
   simp +decide [gI,hb,hb2,hn,h0,dP,a0,a0n,hk,c1,c2,c3,hw]
 . obtain ⟨bs,rfl,hb⟩:=hI;simp [gI,hb]
theorem LV (v:Vw)(hl:v.bound.l.length<2 ^ 62)(bs0:List Blk)(h0:ai bs0 0=some (v.c.map .d)):∃ h',(∃ bs,h'=⟨bs,0⟩/\ai bs 0=some (v.c.map .d))/\Cd E TDp bJ (.loop [1,7] jb) [(1,.ptr 0 0),(7,.d (i64 ((0:Nat):Int)))] ⟨bs0,0⟩=some (cond (fK (λi x=>df Way.id v.bound.l i x&&!eD x) 0 v.bound.l) (.exit 4,[(1,.ptr 0 0)],h') (.ret,[(2,bl false)],h')):=by
 refine nH v.bound.l _ (λi=>[(1,.ptr 0 0),(7,.d (i64 i))]) (λh=>∃ bs,h=⟨bs,0⟩/\ai bs 0=some (v.c.map .d)) (.ret,[(2,bl false)]) (.exit 4,[(1,.ptr 0 0)]) (λi x hx hi h hI=>?_) (λh hI W=>?_) _ ⟨_,rfl,h0⟩
 . obtain ⟨bs,rfl,hb⟩:=hI;have hn:=λh=>av (z:=2) h hx (cells:=Way.c) rfl;have hw:=ay hi hl;have h0:((i:Int)<v.bound.l.length):=by omega
   have hb2:=λys=>aj (ys:=ys) hb;refine ⟨⟨bs++[.cells (x.c.map .d)],0⟩,⟨_,rfl,aj hb⟩,λW=>?_⟩;by_cases a0:(i:Int)>0
   case pos =>
    have a0n:(0<i)=True:=by simp; omega
    obtain ⟨y,j,hij,hy,hj⟩:=qx hl hi a0;have hp:=λh=>av (z:=2) h hy (cells:=Way.c) rfl;have hk:df Way.id v.bound.l i x=decide (y.id<x.id):=by subst hij; simp only [df,hy]
    by_cases a01:x.id<=y.id
    case pos=>simp +decide [jb,hb,hb2,hn,h0,eD,a0,a0n,hj,hp,hk,a01,show ¬ (y.id<x.id) from by omega]
    by_cases c1:x.node<0
    case pos=>simp +decide [jb,hb,hb2,hn,h0,eD,a0,a0n,hj,hp,hk,a01,show (y.id<x.id) from by omega,c1]
    by_cases c2:x.node>9
    case pos=>simp +decide [jb,hb,hb2,hn,h0,eD,a0,a0n,hj,hp,hk,a01,show (y.id<x.id) from by omega,c1,c2]
    simp +decide [jb,hb,hb2,hn,h0,eD,a0,a0n,hj,hp,hk,a01,show (y.id<x.id) from by omega,c1,c2,hw]
   have hk:df Way.id v.bound.l i x=true:=ll a0;have a0n:(0<i)=False:=by simp; omega
   by_cases c1:x.node<0
   case pos=>simp +decide [jb,hb,hb2,hn,h0,eD,a0,a0n,hk,c1]
   by_cases c2:x.node>9
   case pos=>simp +decide [jb,hb,hb2,hn,h0,eD,a0,a0n,hk,c1,c2]
   simp +decide [jb,hb,hb2,hn,h0,eD,a0,a0n,hk,c1,c2,hw]
 . obtain ⟨bs,rfl,hb⟩:=hI;simp [jb,hb]
theorem LW (h288:∀ p:Pol,p.wf big->∀ h,E 120 [ag p.c] h=some (bl (dw p),h))(v:Vw)(hl:v.policies.l.length<2 ^ 62)(hw2:∀ p∈v.policies.l,p.wf big)(bs0:List Blk)(h0:ai bs0 0=some (v.c.map .d)):∃ h',(∃ bs,h'=⟨bs,0⟩/\ai bs 0=some (v.c.map .d))/\Cd E TDp bJ (.loop [1,9] nO) [(1,.ptr 0 0),(9,.d (i64 ((0:Nat):Int)))] ⟨bs0,0⟩=some (cond (fK (λi x=>df Pol.id v.policies.l i x&&!(!dw x)) 0 v.policies.l) (.exit 6,[],h') (.ret,[(2,bl false)],h')):=by
 refine nH v.policies.l _ (λi=>[(1,.ptr 0 0),(9,.d (i64 i))]) (λh=>∃ bs,h=⟨bs,0⟩/\ai bs 0=some (v.c.map .d)) (.ret,[(2,bl false)]) (.exit 6,[]) (λi x hx hi h hI=>?_) (λh hI W=>?_) _ ⟨_,rfl,h0⟩
 . obtain ⟨bs,rfl,hb⟩:=hI;have hn:=λh=>av (z:=5) h hx (cells:=Pol.c) rfl;have hw:=ay hi hl;have h0:((i:Int)<v.policies.l.length):=by omega
   have hb2:=λys=>aj (ys:=ys) hb;have n1:=λh=>(aU (E:=E) (T:=TDp) (val:=bJ) (f:=120) (by kernel_rfl)).trans (h288 x (hw2 x (cb hx)) h);refine ⟨⟨bs++[.cells (x.c.map .d)],0⟩,⟨_,rfl,aj hb⟩,λW=>?_⟩;by_cases a0:(i:Int)>0
   case pos =>
    have a0n:(0<i)=True:=by simp; omega
    obtain ⟨y,j,hij,hy,hj⟩:=qx hl hi a0;have hp:=λh=>av (z:=5) h hy (cells:=Pol.c) rfl;have hk:df Pol.id v.policies.l i x=decide (y.id<x.id):=by subst hij; simp only [df,hy]
    by_cases a01:x.id<=y.id
    case pos=>simp +decide [nO,hb,hb2,hn,h0,az,ae,aL,bu,Tr.mute,a0,a0n,hj,hp,hk,a01,show ¬ (y.id<x.id) from by omega]
    cases c1:dw x<;>rw [c1] at n1<;>simp +decide [nO,hb,hb2,hn,h0,n1,az,ae,aL,bu,Tr.mute,a0,a0n,hj,hp,hk,a01,show (y.id<x.id) from by omega,hw,c1]
   have hk:df Pol.id v.policies.l i x=true:=ll a0;have a0n:(0<i)=False:=by simp; omega
   cases c1:dw x<;>rw [c1] at n1<;>simp +decide [nO,hb,hb2,hn,h0,n1,az,ae,aL,bu,Tr.mute,a0,a0n,hk,hw,c1]
 . obtain ⟨bs,rfl,hb⟩:=hI;simp [nO,hb]
end
section
variable {E:Calls'}
theorem yS {α:Type}(f:α->Int)(p:α->Bool)(l:List α):fK (λi x=>df f l i x&&!p x) 0 l=(aX (l.map f)&&!l.any p):=by
 rw [yQ,Dq,yR]
theorem II (h288:∀ p:Pol,p.wf big->∀ h,E 120 [ag p.c] h=some (bl (dw p),h))(v:Vw)(hv:v.ok)(hw:∀ p∈v.policies.l,p.wf big)(h:Hp):Sm E TDp bJ 56 [v.v] h=some (bl (bg v),h):=by
 have n1:=λh=>X8 (E:=E) hv.1 h;have l1:v.pods.l.length<2 ^ 62:=hv.2.1.lt;have l2:v.services.l.length<2 ^ 62:=hv.2.2.1.lt;have l3:v.bound.l.length<2 ^ 62:=hv.2.2.2.1.lt;have l4:v.policies.l.length<2 ^ 62:=hv.2.2.2.2.1.lt;obtain ⟨h1,⟨b1,rfl,g1⟩,k1⟩:=LQ (E:=E) v l1 [.cells (v.c.map .d)] rfl;obtain ⟨h2,⟨b2,rfl,g2⟩,k2⟩:=LU (E:=E) v l2 b1 g1;obtain ⟨h3,⟨b3,rfl,g3⟩,k3⟩:=LV (E:=E) v l3 b2 g2;obtain ⟨h4,⟨b4,rfl,g4⟩,k4⟩:=LW (E:=E) h288 v l4 hw b3 g3;rw [yS] at k1 k2 k3 k4;have ez:((0:Nat):Int)=0:=rfl;rw [ez] at k1 k2 k3 k4;have hm:bg v=(decide (v.epoch<=4611686018427387903)&&((aX v.covers.l&&!bE v.covers.l 0)&&(decide ((v.covers.l.length:Int)<=38)&&(decide ((v.pods.l.length:Int)<=16)&&(decide ((v.services.l.length:Int)<=6)&&(decide ((v.bound.l.length:Int)<=4)&&(decide ((v.policies.l.length:Int)<=12) &&
  ((aX (v.pods.l.map Pod.uid)&&!v.pods.l.any bS)&&((aX (v.services.l.map Svc.id)&&!v.services.l.any dP)&&((aX (v.bound.l.map Way.id)&&!v.bound.l.any eD)&&(aX (v.policies.l.map Pol.id)&&!v.policies.l.any λp=>!dw p))))))))))):=by
  unfold bg qU Jq lu nG;generalize decide (v.epoch<=4611686018427387903)=x1;generalize aX v.covers.l=x2;generalize bE v.covers.l 0=x3;generalize decide ((v.covers.l.length:Int)<=38)=x4;generalize decide ((v.pods.l.length:Int)<=16)=x5;generalize decide ((v.services.l.length:Int)<=6)=x6;generalize decide ((v.bound.l.length:Int)<=4)=x7;generalize decide ((v.policies.l.length:Int)<=12)=x8;generalize aX (v.pods.l.map Pod.uid)=y1;generalize aX (v.services.l.map Svc.id)=y2;generalize aX (v.bound.l.map Way.id)=y3;generalize aX (v.policies.l.map Pol.id)=y4;generalize v.pods.l.any bS=z1;generalize v.services.l.any dP=z2;generalize v.bound.l.any eD=z3;generalize (v.policies.l.any λp=>!dw p)=z4;cases x1; · rfl
  cases x2; · rfl
  cases x3<;>cases x4<;>cases x5<;>try (simp; done)
  cases x6<;>cases x7<;>cases x8<;>try (simp; done)
  cases y1<;>cases y2<;>cases y3<;>cases y4<;>cases z1<;>cases z2<;>cases z3<;>cases z4<;>rfl
 rw [hm];generalize (aX (v.pods.l.map Pod.uid)&&!v.pods.l.any bS)=A1 at *;generalize (aX (v.services.l.map Svc.id)&&!v.services.l.any dP)=A2 at *;generalize (aX (v.bound.l.map Way.id)&&!v.bound.l.any eD)=A3 at *;generalize (aX (v.policies.l.map Pol.id)&&!v.policies.l.any λp=>!dw p)=A4 at *;generalize (aX v.covers.l&&!bE v.covers.l 0)=A0 at *;rw [aQ QT QZ];by_cases c1:v.epoch<=4611686018427387903
 case neg=>simp [aa,uW,c1,show v.epoch>4611686018427387903 from by omega,aA]
 have c1':¬ v.epoch>4611686018427387903:=by omega
 cases A0
 case false=>simp [aa,uW,c1,c1',n1,aA]
 by_cases c2:(v.covers.l.length:Int)<=38
 case neg=>simp [aa,uW,c1,c1',n1,c2,show (v.covers.l.length:Int)>38 from by omega,aA]
 have c2':¬ (v.covers.l.length:Int)>38:=by omega
 by_cases c3:(v.pods.l.length:Int)<=16
 case neg=>simp [aa,uW,c1,c1',n1,c2,c2',c3,show (v.pods.l.length:Int)>16 from by omega,aA]
 have c3':¬ (v.pods.l.length:Int)>16:=by omega
 by_cases c4:(v.services.l.length:Int)<=6
 case neg=>simp [aa,uW,c1,c1',n1,c2,c2',c3,c3',c4,show (v.services.l.length:Int)>6 from by omega,aA]
 have c4':¬ (v.services.l.length:Int)>6:=by omega
 by_cases c5:(v.bound.l.length:Int)<=4
 case neg=>simp [aa,uW,c1,c1',n1,c2,c2',c3,c3',c4,c4',c5,show (v.bound.l.length:Int)>4 from by omega,aA]
 have c5':¬ (v.bound.l.length:Int)>4:=by omega
 by_cases c6:(v.policies.l.length:Int)<=12
 case neg=>simp [aa,uW,c1,c1',n1,c2,c2',c3,c3',c4,c4',c5,c5',c6,show (v.policies.l.length:Int)>12 from by omega,aA]
 have c6':¬ (v.policies.l.length:Int)>12:=by omega
 simp [aa,uW,c1,c1',n1,c2,c2',c3,c3',c4,c4',c5,c5',c6,c6',aA];rw [au];cases A1
 case false=>simp [k1]
 simp [k1];rw [au];cases A2
 case false=>simp [k2]
 simp [k2];rw [au];cases A3
 case false=>simp [k3]
 simp [k3];rw [au];cases A4
 case false=>simp [k4]
 simp [k4]
theorem wU {s:Sl Int}(hs:short s)(n:Int)(h:Hp):Sm E TDp bJ 60 [.d (s.d aR),.d (u64 n)] h=some (bl (bE s.l n),h):=by
 have hlt:=hs.lt;have key:=λh=>bR (E:=E) (T:=TDp) (val:=bJ) (keep:=[0,1,5]) (body:=qI) s.l (λx=>!(x==n)) (λi=>[(0,.d (s.d aR)),(1,.d (u64 n)),(5,.d (i64 i))]) h (.ret,[(4,bl true)],h) (.exit 0,[],h) (λi x hx hi W=>?_) (λW=>?_)
 . have hh:(s.l.all λx=>!(x==n))=!bE s.l n:=by
    rw [bE,Bool.eq_iff_iff];simp
   rw [aQ QX Q5];have key:=λh=>key h;rw [hh] at key;simp at key;simp [aa,NM];rw [au];simp [key];cases bE s.l n<;>simp
 . have hsx:=λh=>av (z:=1) h hx (cells:=aR) rfl;have hw:=ay hi hlt;have h0:((i:Int)<s.l.length):=by omega
   by_cases hq:x=n
   . simp [qI,hsx,h0,aR,hq]
   . simp [qI,hsx,h0,aR,hq,hw]
 . simp [qI]
def Gd (d:Dlt):V:=ag [d.gonePods.d aR,d.goneServices.d aR,d.goneBound.d aR,d.gonePolicies.d aR]
theorem Qo (d:Dlt)(h:Hp):Sm E TDp bJ 59 [d.v] h=some (Gd d,h):=by
 rw [aQ QW Q4];simp [aa,NL,aB,put];rfl
end
section
variable {E:Calls'}
structure MkF (Q:Nat) (bs0:List Blk) (F:V->List V) (z:Nat) (es:List (List D)) (bs:List Blk) (v:V):Prop where
 old:∀ x,x<bs0.length->x≠Q->bs[x]?=bs0[x]?
 len:bs0.length<=bs.length
 atD:ai bs Q=some (F v)
 lt:Q<bs0.length
 nil:es=[]->v=aK
 row:∃ L M,bs0.length<=L/\M<=bs.length/\Row1 L M bs z es v
section
variable {Q z:Nat}{bs0 bs:List Blk}{F:V->List V}{es:List (List D)}{v:V}
theorem MkF.start (z:Nat)(hD:ai bs0 Q=some (F aK)):MkF Q bs0 F z [] bs0 aK :=
 ⟨λ_ _ _=>rfl,bp _,hD,aJ hD,λ_=>rfl,bs0.length,bs0.length,bp _,bp _,by simp,.inl ⟨rfl,rfl⟩⟩
theorem MkF.get (h:MkF Q bs0 F z es bs v){x:Nat}{cs:List V}(hx:x≠Q)(hg:ai bs0 x=some cs):ai bs x=some cs:=uH hg (h.old x (aJ hg) hx)
theorem MkF.nu (h:MkF Q bs0 F z es bs v):Go.Proofs.YtoecipeaknldaaaGreat.nu v=some v:=by
 obtain ⟨L,M,_,_,h⟩:=h.row; exact h.nu
theorem MkF.lay (h:MkF Q bs0 F z es bs v)(ys:List Blk):MkF Q bs0 F z es (bs++ys) v:=by
 obtain ⟨L,M,h1,h2,h3⟩:=h.row;have hl:=h.len;exact ⟨λx hx hd=>by rw [al (by omega)]; exact h.old x hx hd,by simp; omega,aj h.atD,h.lt,h.nil,L,M,h1,by simp; omega,h3.on λx _ hx=>by rw [al (by omega)]⟩
theorem MkF.app (h:MkF Q bs0 F z es bs v)(hz0:0<z){by_:Nat}(hby:by_<=4096)(hl:es.length<big){e:List D}(he:e.length=z){r:Nat}{cap:Option Nat}(hr:ai bs r=some (e.map .d)) :
 ∃ v' bs',∃ G:Nat->Nat,(∀ lo,fw ⟨bs,lo⟩ z by_ v (.row r 0 1 cap z)=some (v',⟨bs',G lo⟩))/\Go.Proofs.YtoecipeaknldaaaGreat.nu v'=some v'/\v'.cells=some [v']/\ai bs' Q=some (F v)/\MkF Q bs0 F z (es++[e]) (bs'.set Q (.cells (F v'))) v':=by
 obtain ⟨L,M,h1,h2,h3⟩:=h.row;have hlt:=h.lt;have hle:=h.len;obtain ⟨v',bs',G,a1,a2,a3,a4,a5⟩:=h3.app hz0 hby hl he hr h2;have hD:bs'[Q]?=bs[Q]?:=a4 Q (by omega) (.inl (by omega));refine ⟨v',bs',G,a1,a2.nu,a2.cl,uH h.atD hD,⟨λx hx hd=>by rw [ac (Ne.symm hd),a4 x (by omega) (.inl (by omega))]; exact h.old x hx hd,by simp; omega,aN (uH h.atD hD),hlt,λhh=>by simp at hh,bs.length,bs'.length,hle,by simp,a2.on λx h1 _=>by rw [ac (by omega)]⟩⟩
theorem MkF.dat (h:MkF Q bs0 F z es bs v)(lo k:Nat):dataV ⟨bs,lo⟩ (k+1) v=some (.slice es.isEmpty es):=by
 obtain ⟨L,M,h1,h2,h3⟩:=h.row;exact h3.datE h.nil lo k
end
theorem qc {T:FuncId->Option QF}{val:FuncId->Bool}{keep:List Nat}{body:QC}{α:Type}{cells:α->List D}(l:List α)(q:α->Bool)(f:α->α){Q z:Nat}{bs0:List Blk}{F:V->List V}(env:Nat->EA)(X:Ex×EA)
 (hr:∀ i x,l[i]?=some x->i<l.length->∀ bs lo v es,MkF Q bs0 F z es bs v->es.length<=i->∃ bs' lo' v',MkF Q bs0 F z (if q x then es++[cells (f x)] else es) bs' v'/\∀ W:EA->Hp->fu,dJ keep W (Cd E T val body (bN keep (env i)) ⟨bs,lo⟩)=W (env (i+1)) ⟨bs',lo'⟩)
 (he:∀ bs lo v es,MkF Q bs0 F z es bs v->∀ W:EA->Hp->fu,dJ keep W (Cd E T val body (bN keep (env l.length)) ⟨bs,lo⟩)=some (X.1,X.2,⟨bs,lo⟩)) (lo:Nat) (hD:ai bs0 Q=some (F aK)) :
 ∃ bs' lo' v',Cd E T val (.loop keep body) (env 0) ⟨bs0,lo⟩=some (X.1,X.2,⟨bs',lo'⟩)/\MkF Q bs0 F z (((l.filter q).map f).map cells) bs' v':=by
 obtain ⟨bs',lo',h1,v',h2⟩:=qb (E:=E) (T:=T) (val:=val) (keep:=keep) (body:=body) l.length env (λi bs=>∃ v,MkF Q bs0 F z ((((l.take i).filter q).map f).map cells) bs v) X
  (λi hi bs lo ⟨v,hv⟩=>by
    have hx:=ab hi;have htk:l.take (i+1)=l.take i++[l[i]]:=by rw [List.take_add_one,hx]; rfl
    generalize l[i]=x at hx htk;obtain ⟨bs',lo',v',g1,g2⟩:=hr i x hx hi bs lo v _ hv (by
     have:=List.length_filter_le q (l.take i);simp only [bx];rw [List.length_take] at this; omega)
    refine ⟨bs',lo',⟨v',?_⟩,g2⟩;rw [htk,List.filter_append];cases hq:q x<;>simp [hq] at g1 ⊢<;>exact g1)
  (λbs lo ⟨v,hv⟩ W=>he bs lo v _ hv W) bs0 lo ⟨aK,MkF.start z hD⟩
 rw [List.take_length] at h2;exact ⟨bs',lo',v',h1,h2⟩
theorem MkF.datL {Q z:Nat}{bs0 bs bs':List Blk}{F:V->List V}{es:List (List D)}{v:V}(h:MkF Q bs0 F z es bs v)(ho:∀ x,Q<x->x<bs.length->bs'[x]?=bs[x]?)(lo:Nat):dataV ⟨bs',lo⟩ 8 v=some (.slice es.isEmpty es):=by
 obtain ⟨L,M,h1,h2,h3⟩:=h.row;have:=h.lt;exact (h3.on λx hx hy=>ho x (by omega) (by omega)).datE h.nil lo 7
theorem LX (w:Vw)(hl:w.pods.l.length<big){bs0:List Blk}(b0:ai bs0 0=some (w.c.map .d))(hD:ai bs0 2=some ((λv:V=>[v,.d (.slice true []),.d (.slice true []),.d (.slice true [])]) aK))(lo:Nat) :
 ∃ bs' lo' v',Cd E TDp bJ (.loop [1,2,3,4] qE) [(1,.ptr 0 0),(2,.ptr 1 0),(3,.ptr 2 0),(4,.d (i64 ((0:Nat):Int)))] ⟨bs0,lo⟩=some (.exit 0,[(1,.ptr 0 0),(2,.ptr 1 0),(3,.ptr 2 0)],⟨bs',lo'⟩)/\MkF 2 bs0 (λv=>[v,.d (.slice true []),.d (.slice true []),.d (.slice true [])]) 1 ((w.pods.l.map Pod.uid).map aR) bs' v':=by
 have hlt:w.pods.l.length<2 ^ 62:=cd hl (by decide);have key:=qc (E:=E) (T:=TDp) (val:=bJ) (keep:=[1,2,3,4]) (body:=qE) (cells:=λx:Pod=>aR x.uid) w.pods.l (λ_=>true) id (Q:=2) (z:=1) (bs0:=bs0) (F:=λv=>[v,.d (.slice true []),.d (.slice true []),.d (.slice true [])]) (λi=>[(1,.ptr 0 0),(2,.ptr 1 0),(3,.ptr 2 0),(4,.d (i64 i))]) (.exit 0,[(1,.ptr 0 0),(2,.ptr 1 0),(3,.ptr 2 0)]) (λi x hx hi bs lo v es hM hes=>?_) (λbs lo v es hM W=>?_) lo hD
 . have hft:w.pods.l.filter (λ_=>true)=w.pods.l:=List.filter_eq_self.2 λ_ _=>rfl;rw [hft] at key;simpa [ck] using key
 . have hsx:=λh=>av (z:=7) h hx (cells:=Pod.c) rfl;have hw:=ay hi hlt;have h0:((i:Int)<w.pods.l.length):=by omega
   have hM1:=hM.lay [.cells ((aR x.uid).map .d)];have g0:=hM.get (x:=0) (by omega) b0;have gD:=hM.atD;have gD':=λys=>aj (ys:=ys) hM.atD;have hnu:=hM.nu;have hix:∀ hp,cZ (some 4) 1 (.ptr 2 0) (.d (.int .i64 0)) hp=some (.ptr 2 0,hp):=λhp=>rfl;obtain ⟨v',bs',G,a1,a2,a3,a4,a5⟩:=hM1.app (by decide) (by_:=8) (by decide) (by omega) (e:=aR x.uid) rfl (r:=bs.length) (cap:=some 1) (by simp);refine ⟨_,min (G lo) 2,v',by simpa using a5,λW=>?_⟩;simp [aR] at a1;simp [qE,g0,gD,gD',aJ gD,hix,hsx,h0,hw,hnu,a1,a2,a3,a4,aR,aB,az,ae,aL,aG,Tr.spares,List.range,List.range.loop,aA]
 . have g0:=hM.get (x:=0) (by omega) b0;simp [qE,g0]
theorem LY (w:Vw)(hl:w.services.l.length<big){n0:V}{bs0:List Blk}(b0:ai bs0 0=some (w.c.map .d))(hD:ai bs0 2=some ((λv:V=>[n0,v,.d (.slice true []),.d (.slice true [])]) aK))(lo:Nat) :
 ∃ bs' lo' v',Cd E TDp bJ (.loop [1,2,3,5] qF) [(1,.ptr 0 0),(2,.ptr 1 0),(3,.ptr 2 0),(5,.d (i64 ((0:Nat):Int)))] ⟨bs0,lo⟩=some (.exit 2,[(1,.ptr 0 0),(2,.ptr 1 0),(3,.ptr 2 0)],⟨bs',lo'⟩)/\MkF 2 bs0 (λv=>[n0,v,.d (.slice true []),.d (.slice true [])]) 1 ((w.services.l.map Svc.id).map aR) bs' v':=by
 have hlt:w.services.l.length<2 ^ 62:=cd hl (by decide);have key:=qc (E:=E) (T:=TDp) (val:=bJ) (keep:=[1,2,3,5]) (body:=qF) (cells:=λx:Svc=>aR x.id) w.services.l (λ_=>true) id (Q:=2) (z:=1) (bs0:=bs0) (F:=λv=>[n0,v,.d (.slice true []),.d (.slice true [])]) (λi=>[(1,.ptr 0 0),(2,.ptr 1 0),(3,.ptr 2 0),(5,.d (i64 i))]) (.exit 2,[(1,.ptr 0 0),(2,.ptr 1 0),(3,.ptr 2 0)]) (λi x hx hi bs lo v es hM hes=>?_) (λbs lo v es hM W=>?_) lo hD
 . have hft:w.services.l.filter (λ_=>true)=w.services.l:=List.filter_eq_self.2 λ_ _=>rfl;rw [hft] at key;simpa [ck] using key
 . have hsx:=λh=>av (z:=5) h hx (cells:=Svc.c) rfl;have hw:=ay hi hlt;have h0:((i:Int)<w.services.l.length):=by omega
   have hM1:=hM.lay [.cells ((aR x.id).map .d)];have g0:=hM.get (x:=0) (by omega) b0;have gD:=hM.atD;have gD':=λys=>aj (ys:=ys) hM.atD;have hnu:=hM.nu;have hix:∀ hp,cZ (some 4) 1 (.ptr 2 0) (.d (.int .i64 1)) hp=some (.ptr 2 1,hp):=λhp=>rfl;obtain ⟨v',bs',G,a1,a2,a3,a4,a5⟩:=hM1.app (by decide) (by_:=8) (by decide) (by omega) (e:=aR x.id) rfl (r:=bs.length) (cap:=some 1) (by simp);refine ⟨_,min (G lo) 2,v',by simpa using a5,λW=>?_⟩;simp [aR] at a1;simp [qF,g0,gD,gD',aJ gD,hix,hsx,h0,hw,hnu,a1,a2,a3,a4,aR,aB,az,ae,aL,aG,Tr.spares,List.range,List.range.loop,aA]
 . have g0:=hM.get (x:=0) (by omega) b0;simp [qF,g0]
theorem LZ (w:Vw)(hl:w.bound.l.length<big){n0 n1:V}{bs0:List Blk}(b0:ai bs0 0=some (w.c.map .d))(hD:ai bs0 2=some ((λv:V=>[n0,n1,v,.d (.slice true [])]) aK))(lo:Nat) :
 ∃ bs' lo' v',Cd E TDp bJ (.loop [1,2,3,6] qG) [(1,.ptr 0 0),(2,.ptr 1 0),(3,.ptr 2 0),(6,.d (i64 ((0:Nat):Int)))] ⟨bs0,lo⟩=some (.exit 4,[(1,.ptr 0 0),(2,.ptr 1 0),(3,.ptr 2 0)],⟨bs',lo'⟩)/\MkF 2 bs0 (λv=>[n0,n1,v,.d (.slice true [])]) 1 ((w.bound.l.map Way.id).map aR) bs' v':=by
 have hlt:w.bound.l.length<2 ^ 62:=cd hl (by decide);have key:=qc (E:=E) (T:=TDp) (val:=bJ) (keep:=[1,2,3,6]) (body:=qG) (cells:=λx:Way=>aR x.id) w.bound.l (λ_=>true) id (Q:=2) (z:=1) (bs0:=bs0) (F:=λv=>[n0,n1,v,.d (.slice true [])]) (λi=>[(1,.ptr 0 0),(2,.ptr 1 0),(3,.ptr 2 0),(6,.d (i64 i))]) (.exit 4,[(1,.ptr 0 0),(2,.ptr 1 0),(3,.ptr 2 0)]) (λi x hx hi bs lo v es hM hes=>?_) (λbs lo v es hM W=>?_) lo hD
 . have hft:w.bound.l.filter (λ_=>true)=w.bound.l:=List.filter_eq_self.2 λ_ _=>rfl;rw [hft] at key;simpa [ck] using key
 . have hsx:=λh=>av (z:=2) h hx (cells:=Way.c) rfl;have hw:=ay hi hlt;have h0:((i:Int)<w.bound.l.length):=by omega
   have hM1:=hM.lay [.cells ((aR x.id).map .d)];have g0:=hM.get (x:=0) (by omega) b0;have gD:=hM.atD;have gD':=λys=>aj (ys:=ys) hM.atD;have hnu:=hM.nu;have hix:∀ hp,cZ (some 4) 1 (.ptr 2 0) (.d (.int .i64 2)) hp=some (.ptr 2 2,hp):=λhp=>rfl;obtain ⟨v',bs',G,a1,a2,a3,a4,a5⟩:=hM1.app (by decide) (by_:=8) (by decide) (by omega) (e:=aR x.id) rfl (r:=bs.length) (cap:=some 1) (by simp);refine ⟨_,min (G lo) 2,v',by simpa using a5,λW=>?_⟩;simp [aR] at a1;simp [qG,g0,gD,gD',aJ gD,hix,hsx,h0,hw,hnu,a1,a2,a3,a4,aR,aB,az,ae,aL,aG,Tr.spares,List.range,List.range.loop,aA]
 . have g0:=hM.get (x:=0) (by omega) b0;simp [qG,g0]
theorem L6 (w:Vw)(hl:w.policies.l.length<big){n0 n1 n2:V}{bs0:List Blk}(b0:ai bs0 0=some (w.c.map .d))(hD:ai bs0 2=some ((λv:V=>[n0,n1,n2,v]) aK))(lo:Nat) :
 ∃ bs' lo' v',Cd E TDp bJ (.loop [1,2,3,7] qH) [(1,.ptr 0 0),(2,.ptr 1 0),(3,.ptr 2 0),(7,.d (i64 ((0:Nat):Int)))] ⟨bs0,lo⟩=some (.exit 6,[(2,.ptr 1 0),(3,.ptr 2 0)],⟨bs',lo'⟩)/\MkF 2 bs0 (λv=>[n0,n1,n2,v]) 1 ((w.policies.l.map Pol.id).map aR) bs' v':=by
 have hlt:w.policies.l.length<2 ^ 62:=cd hl (by decide);have key:=qc (E:=E) (T:=TDp) (val:=bJ) (keep:=[1,2,3,7]) (body:=qH) (cells:=λx:Pol=>aR x.id) w.policies.l (λ_=>true) id (Q:=2) (z:=1) (bs0:=bs0) (F:=λv=>[n0,n1,n2,v]) (λi=>[(1,.ptr 0 0),(2,.ptr 1 0),(3,.ptr 2 0),(7,.d (i64 i))]) (.exit 6,[(2,.ptr 1 0),(3,.ptr 2 0)]) (λi x hx hi bs lo v es hM hes=>?_) (λbs lo v es hM W=>?_) lo hD
 . have hft:w.policies.l.filter (λ_=>true)=w.policies.l:=List.filter_eq_self.2 λ_ _=>rfl;rw [hft] at key;simpa [ck] using key
 . have hsx:=λh=>av (z:=5) h hx (cells:=Pol.c) rfl;have hw:=ay hi hlt;have h0:((i:Int)<w.policies.l.length):=by omega
   have hM1:=hM.lay [.cells ((aR x.id).map .d)];have g0:=hM.get (x:=0) (by omega) b0;have gD:=hM.atD;have gD':=λys=>aj (ys:=ys) hM.atD;have hnu:=hM.nu;have hix:∀ hp,cZ (some 4) 1 (.ptr 2 0) (.d (.int .i64 3)) hp=some (.ptr 2 3,hp):=λhp=>rfl;obtain ⟨v',bs',G,a1,a2,a3,a4,a5⟩:=hM1.app (by decide) (by_:=8) (by decide) (by omega) (e:=aR x.id) rfl (r:=bs.length) (cap:=some 1) (by simp);refine ⟨_,min (G lo) 2,v',by simpa using a5,λW=>?_⟩;simp [aR] at a1;simp [qH,g0,gD,gD',aJ gD,hix,hsx,h0,hw,hnu,a1,a2,a3,a4,aR,aB,az,ae,aL,aG,Tr.spares,List.range,List.range.loop,aA]
 . have g0:=hM.get (x:=0) (by omega) b0;simp [qH,g0]
def CJ (w:Vw):V:=ag [(bY (w.pods.l.map Pod.uid)).d aR,(bY (w.services.l.map Svc.id)).d aR,(bY (w.bound.l.map Way.id)).d aR,(bY (w.policies.l.map Pol.id)).d aR]
theorem Qn (w:Vw)(h1:w.pods.l.length<big)(h2:w.services.l.length<big)(h3:w.bound.l.length<big)(h4:w.policies.l.length<big)(h:Hp):Sm E TDp bJ 58 [w.v] h=some (CJ w,h):=by
 obtain ⟨m1,lo1,n0,a1,K1⟩:=LX (E:=E) w h1 (bs0:=[.cells (w.c.map .d),.cells [.d (.slice true []),.d (.slice true []),.d (.slice true []),.d (.slice true [])],.cells [.d (.slice true []),.d (.slice true []),.d (.slice true []),.d (.slice true [])]]) rfl rfl 0;have f0:=K1.get (x:=0) (by omega) rfl;have f1:=K1.get (x:=1) (by omega) rfl;obtain ⟨m2,lo2,n1,a2,K2⟩:=LY (E:=E) w h2 f0 K1.atD lo1;have f0:=K2.get (by omega) f0;have f1:=K2.get (by omega) f1;obtain ⟨m3,lo3,n2,a3,K3⟩:=LZ (E:=E) w h3 f0 K2.atD lo2;have f0:=K3.get (by omega) f0;have f1:=K3.get (by omega) f1;obtain ⟨m4,lo4,n3,a4,K4⟩:=L6 (E:=E) w h4 f0 K3.atD lo3;have f0:=K4.get (by omega) f0;have f1:=K4.get (by omega) f1;have d4:=K4.atD;have e1:=K1.len;have e2:=K2.len;have e3:=K3.len;have e4:=K4.len;simp at e1;have b3:∀ y,y<m3.length->y≠2->m4[y]?=m3[y]?:=K4.old;have b2:∀ y,y<m2.length->y≠2->m4[y]?=m2[y]?:=λy hy hn=>(b3 y (by omega) hn).trans (K3.old y hy hn);have b1:∀ y,y<m1.length->y≠2->m4[y]?=m1[y]?:=λy hy hn=>(b2 y (by omega) hn).trans (K2.old y hy hn);have t1:∀ X lo,dataV ⟨m4.set 1 (.cells X),lo⟩ 8 n0=_:=λX lo=>K1.datL (λy h1 h2=>by rw [ac (by omega),b1 y h2 (by omega)]) lo;have t2:∀ X lo,dataV ⟨m4.set 1 (.cells X),lo⟩ 8 n1=_:=λX lo=>K2.datL (λy h1 h2=>by rw [ac (by omega),b2 y h2 (by omega)]) lo
 have t3:∀ X lo,dataV ⟨m4.set 1 (.cells X),lo⟩ 8 n2=_:=λX lo=>K3.datL (λy h1 h2=>by rw [ac (by omega),b3 y h2 (by omega)]) lo;have t4:∀ X lo,dataV ⟨m4.set 1 (.cells X),lo⟩ 8 n3=_:=λX lo=>K4.datL (λy h1 h2=>by rw [ac (by omega)]) lo;have ez:((0:Nat):Int)=0:=rfl;rw [ez] at a1 a2 a3 a4;have s1:∀ X,ai (m4.set 1 (.cells X)) 1=some X:=λX=>aN f1;have hcv:∀ X lo,bP ⟨m4.set 1 (.cells X),lo⟩ [n0,n1,n2,n3]=some [(bY (w.pods.l.map Pod.uid)).d aR,(bY (w.services.l.map Svc.id)).d aR,(bY (w.bound.l.map Way.id)).d aR,(bY (w.policies.l.map Pol.id)).d aR]:=λX lo=>by
  simp only [bP,List.mapM_cons,List.mapM_nil,t1,t2,t3,t4];simp [bY,Sl.d]
 rw [aQ QV Q3];simp [aa,NK];rw [au];simp [a1];rw [au];simp [a2];rw [au];simp [a3];rw [au];simp [a4,f1,d4,s1,hcv,CJ]
end
section
variable {E:Calls'}
def uI (g N:List Int):Bool:=aX g&&!g.any (bE N)
theorem wT {bs:List Blk}{c2 c3:List V}(g2:ai bs 2=some c2)(g3:ai bs 3=some c3){k kk:Nat}{G N:Sl Int}(hG:short G)(hN:short N)(hix:∀ b hp,cZ (some 4) 1 (.ptr b 0) (.d (i64 k)) hp=some (.ptr b kk,hp))(s2:sub c2 kk 1=some [.d (N.d aR)])(s3:sub c3 kk 1=some [.d (G.d aR)])(lo:Nat) :
 Cd E TDp bJ (.loop [1,3,4,5,6,7] nP) [(1,.ptr 0 0),(3,.ptr 1 0),(4,.ptr 2 0),(5,.ptr 3 0),(6,.d (i64 k)),(7,.d (i64 ((0:Nat):Int)))] ⟨bs,lo⟩=some (cond (uI G.l N.l) (.exit 2,[(1,.ptr 0 0),(3,.ptr 1 0),(4,.ptr 2 0),(5,.ptr 3 0),(6,.d (i64 k))],⟨bs,lo⟩) (.ret,[(2,bl false)],⟨bs,lo⟩)):=by
 have hl:=hG.lt;have hq:uI G.l N.l=fK (λi x=>df id G.l i x&&!bE N.l x) 0 G.l:=by
  rw [yS,List.map_id]; rfl
 rw [hq];refine lg (E:=E) (T:=TDp) (val:=bJ) G.l _ (λi=>[(1,.ptr 0 0),(3,.ptr 1 0),(4,.ptr 2 0),(5,.ptr 3 0),(6,.d (i64 k)),(7,.d (i64 i))]) _ _ _ (λi x hx hi W=>?_) (λW=>?_)
 . have hn:=λh=>av (z:=1) h hx (cells:=aR) rfl;have hw:=ay hi hl;have h0:((i:Int)<G.l.length):=by omega
   have n1:=λh=>wU (E:=E) hN x h;by_cases a0:(i:Int)>0
   case pos =>
    have a0n:(0<i)=True:=by simp; omega
    obtain ⟨y,j,hij,hy,hj⟩:=qx hl hi a0;have hp:=λh=>av (z:=1) h hy (cells:=aR) rfl;have hk:df id G.l i x=decide (y<x):=by subst hij; simp only [df,hy,id]
    by_cases a01:x<=y
    case pos=>simp +decide [nP,g2,g3,s2,s3,hix,hn,h0,aR,az,ae,aL,bu,Tr.mute,aA,a0,a0n,hj,hp,hk,a01,show ¬ (y<x) from by omega]
    cases c1:bE N.l x<;>rw [c1] at n1<;>simp +decide [nP,g2,g3,s2,s3,hix,hn,h0,n1,aR,az,ae,aL,bu,Tr.mute,aA,a0,a0n,hj,hp,hk,a01,show (y<x) from by omega,hw,c1]
   have hk:df id G.l i x=true:=ll a0;have a0n:(0<i)=False:=by simp; omega
   cases c1:bE N.l x<;>rw [c1] at n1<;>simp +decide [nP,g2,g3,s2,s3,hix,hn,h0,n1,aR,az,ae,aL,bu,Tr.mute,aA,a0,a0n,hk,hw,c1]
 . simp [nP,g3,s3,hix]
theorem Bo {α:Type}(key:α->Int)(g:List Int)(most:Int)(l:List α):(decide ((g.length:Int)<=most)&&uI g (l.map key))=jE key g most l:=by
 have h:g.any (bE (l.map key))=l.any λx=>bE g (key x):=by
  rw [Bool.eq_iff_iff,List.any_eq_true,List.any_eq_true];constructor
  . rintro ⟨n,h1,h2⟩;obtain ⟨x,hx,rfl⟩:=b9.1 (hasT_iff.1 h2);exact ⟨x,hx,hasT_iff.2 h1⟩
  . rintro ⟨x,h1,h2⟩;exact ⟨key x,hasT_iff.1 h2,hasT_iff.2 (List.mem_map_of_mem h1)⟩
 unfold uI jE;rw [h];cases decide ((g.length:Int)<=most)<;>cases aX g<;>rfl
theorem Qm (h79:∀ d:Dlt,∀ h,E 19 [d.v] h=some (d.vw.v,h))(h288:∀ p:Pol,p.wf big->∀ h,E 120 [ag p.c] h=some (bl (dw p),h))(d:Dlt)(hd:d.ok)(hw:∀ p∈d.policies.l,p.wf big)(l1:d.pods.l.length<big)(l2:d.services.l.length<big)(l3:d.bound.l.length<big)(l4:d.policies.l.length<big)(h:Hp):Sm E TDp bJ 57 [d.v] h=some (bl (dL d),h):=by
 obtain ⟨hv,g1,g2,g3,g4⟩:=hd;have c79:=λh=>(aU (E:=E) (T:=TDp) (val:=bJ) (f:=19) (by kernel_rfl)).trans (h79 d h);have c180:=λh=>Qn (E:=E) d.vw l1 l2 l3 l4 h;have c181:=λh=>Qo (E:=E) d h;have c178:=λh=>II (E:=E) h288 d.vw hv hw h;have nw:∀ {α:Type} (f:α->Int) (l:List α),l.length<big->short (bY (l.map f)):=λf l hl=>⟨by simp [bY]; omega,λhn=>by simpa [bY] using hn⟩;obtain ⟨c2,hc2⟩:∃ c:List V,c=[.d ((bY (d.pods.l.map Pod.uid)).d aR),.d ((bY (d.services.l.map Svc.id)).d aR),.d ((bY (d.bound.l.map Way.id)).d aR),.d ((bY (d.policies.l.map Pol.id)).d aR)]:=⟨_,rfl⟩;obtain ⟨c3,hc3⟩:∃ c:List V,c=[.d (d.gonePods.d aR),.d (d.goneServices.d aR),.d (d.goneBound.d aR),.d (d.gonePolicies.d aR)]:=⟨_,rfl⟩;have l2':c2.length=4:=by rw [hc2]; rfl
 have l3':c3.length=4:=by rw [hc3]; rfl
 have q0:=wT (E:=E) (bs:=[.cells (d.c.map .d),.cells [.d (i64 16),.d (i64 6),.d (i64 4),.d (i64 12)],.cells c2,.cells c3]) (c2:=c2) (c3:=c3) rfl rfl (k:=0) (kk:=0) g1 (nw Pod.uid d.pods.l l1) (λb hp=>rfl) (by rw [hc2]; rfl) (by rw [hc3]; rfl) 0;have q1:=wT (E:=E) (bs:=[.cells (d.c.map .d),.cells [.d (i64 16),.d (i64 6),.d (i64 4),.d (i64 12)],.cells c2,.cells c3]) (c2:=c2) (c3:=c3) rfl rfl (k:=1) (kk:=1) g2 (nw Svc.id d.services.l l2) (λb hp=>rfl) (by rw [hc2]; rfl) (by rw [hc3]; rfl) 0;have q2:=wT (E:=E) (bs:=[.cells (d.c.map .d),.cells [.d (i64 16),.d (i64 6),.d (i64 4),.d (i64 12)],.cells c2,.cells c3]) (c2:=c2) (c3:=c3) rfl rfl (k:=2) (kk:=2) g3 (nw Way.id d.bound.l l3) (λb hp=>rfl) (by rw [hc2]; rfl) (by rw [hc3]; rfl) 0;have q3:=wT (E:=E) (bs:=[.cells (d.c.map .d),.cells [.d (i64 16),.d (i64 6),.d (i64 4),.d (i64 12)],.cells c2,.cells c3]) (c2:=c2) (c3:=c3) rfl rfl (k:=3) (kk:=3) g4 (nw Pol.id d.policies.l l4) (λb hp=>rfl) (by rw [hc2]; rfl) (by rw [hc3]; rfl) 0
 have outer:=lg (E:=E) (T:=TDp) (val:=bJ) (keep:=[1,3,4,5,6]) (body:=iD) [(d.gonePods.l,d.pods.l.map Pod.uid,(16:Int)),(d.goneServices.l,d.services.l.map Svc.id,6),(d.goneBound.l,d.bound.l.map Way.id,4),(d.gonePolicies.l,d.policies.l.map Pol.id,12)] (λ_ x=>decide ((x.1.length:Int)<=x.2.2)&&uI x.1 x.2.1) (λi=>[(1,.ptr 0 0),(3,.ptr 1 0),(4,.ptr 2 0),(5,.ptr 3 0),(6,.d (i64 i))]) ⟨[.cells (d.c.map .d),.cells [.d (i64 16),.d (i64 6),.d (i64 4),.d (i64 12)],.cells c2,.cells c3],0⟩ (.ret,[(2,bl false)],⟨[.cells (d.c.map .d),.cells [.d (i64 16),.d (i64 6),.d (i64 4),.d (i64 12)],.cells c2,.cells c3],0⟩) (.exit 0,[(1,.ptr 0 0)],⟨[.cells (d.c.map .d),.cells [.d (i64 16),.d (i64 6),.d (i64 4),.d (i64 12)],.cells c2,.cells c3],0⟩) (λi x hx hi W=>?_) (λW=>?_)
 . have hdm:dL d=(([(d.gonePods.l,d.pods.l.map Pod.uid,(16:Int)),(d.goneServices.l,d.services.l.map Svc.id,6),(d.goneBound.l,d.bound.l.map Way.id,4),(d.gonePolicies.l,d.policies.l.map Pol.id,12)].all λx=>decide ((x.1.length:Int)<=x.2.2)&&uI x.1 x.2.1)&&bg d.vw):=by
    simp only [List.all_cons,List.all_nil,Bool.and_true,Bo];rfl
   rw [uh] at outer;rw [hdm];generalize ([(d.gonePods.l,d.pods.l.map Pod.uid,(16:Int)),(d.goneServices.l,d.services.l.map Svc.id,6),(d.goneBound.l,d.bound.l.map Way.id,4),(d.gonePolicies.l,d.policies.l.map Pol.id,12)].all λx=>decide ((x.1.length:Int)<=x.2.2)&&uI x.1 x.2.1)=A at *;have ez:((0:Nat):Int)=0:=rfl;rw [ez] at outer;have hn:CJ d.vw=.agg c2:=by rw [hc2]; rfl
   have hg:Gd d=.agg c3:=by rw [hc3]; rfl
   rw [hn] at c180;rw [hg] at c181;rw [aQ QU Q0];simp [aa,NJ,c79,c180,c181,l2',l3',aB,put,az,ae,aL,aG,Tr.spares,List.range,List.range.loop,aA];rw [au];cases A with
   | false=>simp [outer]
   | true=>simp [outer,c79,c178]
 . have hi:i=0\/i=1\/i=2\/i=3:=by simp at hi; omega
   have ez:((0:Nat):Int)=0:=rfl;rw [ez] at q0 q1 q2 q3;have i0:∀ b hp,cZ (some 4) 1 (.ptr b 0) (.d (i64 0)) hp=some (.ptr b 0,hp):=λb hp=>rfl;have i1:∀ b hp,cZ (some 4) 1 (.ptr b 0) (.d (i64 1)) hp=some (.ptr b 1,hp):=λb hp=>rfl;have i2:∀ b hp,cZ (some 4) 1 (.ptr b 0) (.d (i64 2)) hp=some (.ptr b 2,hp):=λb hp=>rfl;have i3:∀ b hp,cZ (some 4) 1 (.ptr b 0) (.d (i64 3)) hp=some (.ptr b 3,hp):=λb hp=>rfl;have s0:sub c3 0 1=some [.d (d.gonePods.d aR)]:=by rw [hc3]; rfl
   have s1:sub c3 1 1=some [.d (d.goneServices.d aR)]:=by rw [hc3]; rfl
   have s2:sub c3 2 1=some [.d (d.goneBound.d aR)]:=by rw [hc3]; rfl
   have s3:sub c3 3 1=some [.d (d.gonePolicies.d aR)]:=by rw [hc3]; rfl
   have w1:wrap .i64 1=1:=by rw [wrap64]<;>omega
   have w2:wrap .i64 2=2:=by rw [wrap64]<;>omega
   have w3:wrap .i64 3=3:=by rw [wrap64]<;>omega
   have w4:wrap .i64 4=4:=by rw [wrap64]<;>omega
   obtain rfl | rfl | rfl | rfl:=hi
   . simp at hx;subst hx;by_cases hle:(d.gonePods.l.length:Int)<=16
     . cases hg:uI d.gonePods.l (d.pods.l.map Pod.uid)<;>simp [bY,hg] at q0<;>simp [iD,i0,s0,hle,show ¬ (d.gonePods.l.length:Int)>16 from by omega,hg]<;>rw [au]<;>simp [q0,w1]
     . simp [iD,i0,s0,hle,show (d.gonePods.l.length:Int)>16 from by omega]
   . simp at hx;subst hx;by_cases hle:(d.goneServices.l.length:Int)<=6
     . cases hg:uI d.goneServices.l (d.services.l.map Svc.id)<;>simp [bY,hg] at q1<;>simp [iD,i1,s1,hle,show ¬ (d.goneServices.l.length:Int)>6 from by omega,hg]<;>rw [au]<;>simp [q1,w2]
     . simp [iD,i1,s1,hle,show (d.goneServices.l.length:Int)>6 from by omega]
   . simp at hx;subst hx;by_cases hle:(d.goneBound.l.length:Int)<=4
     . cases hg:uI d.goneBound.l (d.bound.l.map Way.id)<;>simp [bY,hg] at q2<;>simp [iD,i2,s2,hle,show ¬ (d.goneBound.l.length:Int)>4 from by omega,hg]<;>rw [au]<;>simp [q2,w3]
     . simp [iD,i2,s2,hle,show (d.goneBound.l.length:Int)>4 from by omega]
   . simp at hx;subst hx;by_cases hle:(d.gonePolicies.l.length:Int)<=12
     . cases hg:uI d.gonePolicies.l (d.policies.l.map Pol.id)<;>simp [bY,hg] at q3<;>simp [iD,i3,s3,hle,show ¬ (d.gonePolicies.l.length:Int)>12 from by omega,hg]<;>rw [au]<;>simp [q3,w4]
     . simp [iD,i3,s3,hle,show (d.gonePolicies.l.length:Int)>12 from by omega]
 . simp [iD]
end
