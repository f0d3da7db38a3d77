/- The document's May of a view, by value. -/
import Derived.Test.YtllbjfmiilckiaaGreatEd
set_option maxRecDepth 100000
set_option linter.unusedVariables false
set_option linter.unusedSimpArgs false
namespace Go.Proofs.YtllbjfmiilckiaaGreat
section
variable {E:Calls'}
def WO:List (Nat×QF):=[(21,q84),(9,uI),(13,Ob),(45,Oc),(46,Od),(47,Oe),(28,Oi)]
def TDp:FuncId->Option QF:=gI WO
def bB (f:FuncId):Bool:=[21,9,13,45,46,47,28].any λn=>Nat.beq n f
theorem SS:TDp 9=some uI:=by kernel_rfl
theorem Tc:bB 9=true:=by kernel_rfl
theorem SV:TDp 13=some Ob:=by kernel_rfl
theorem Td:bB 13=true:=by kernel_rfl
theorem SX:TDp 45=some Oc:=by kernel_rfl
theorem Te:bB 45=true:=by kernel_rfl
theorem SY:TDp 46=some Od:=by kernel_rfl
theorem Tf:bB 46=true:=by kernel_rfl
theorem S9:TDp 47=some Oe:=by kernel_rfl
theorem Ti:bB 47=true:=by kernel_rfl
theorem Ta:TDp 28=some Oi:=by kernel_rfl
theorem Tj:bB 28=true:=by kernel_rfl
def rizQ (L:List Int)(i:Nat)(x:Int):Bool:=!(x==0)&&(i==0||decide ((L[i-1]?).getD 0<x))
theorem yF (L:List Int):∀ (l:List Int) (i:Nat) (p:Int),L.drop (i+1)=l->L[i]?=some p->fE (rizQ L) (i+1) l=(aZ (p::l)&&!bu l 0)
 | [],i,p,_,_=>rfl
 | x::l,i,p,hd,hp=>by
  have hx:L[i+1]?=some x:=by rw [← List.head?_drop,hd]; rfl
  have ih:=yF L l (i+1) x (by rw [← List.tail_drop,hd]; rfl) hx;rw [fE,ih];simp only [rizQ,Nat.add_sub_cancel,hp,Option.getD_some,aZ,bu,List.find?_cons,show (i+1==0)=false from rfl,Bool.false_or];by_cases h0:x=0
  . simp [h0]
  . have:(x==0)=false:=by simpa using h0
    simp [this,Bool.and_assoc]
theorem Di (L:List Int):fE (rizQ L) 0 L=(aZ L&&!bu L 0):=by
 cases L with
 | nil=>rfl
 | cons p l =>
  have:=yF (p::l) l 0 p rfl rfl;rw [fE,this];simp only [rizQ,bu,List.find?_cons];by_cases h0:p=0
  . simp [h0]
  . have:(p==0)=false:=by simpa using h0
    simp [this]
theorem Zg {s:Sl Int}(hs:short s)(h:Hp):Sm E TDp bB 28 [.d (s.d bP)] h=some (bl (aZ s.l&&!bu s.l 0),h):=by
 have hlt:=hs.lt;have key:=λh=>kC (E:=E) (T:=TDp) (val:=bB) (keep:=[0,3]) (body:=jV) s.l (rizQ s.l) (λi=>[(0,.d (s.d bP)),(3,.d (i64 i))]) h (.ret,[(2,bl false)],h) (.exit 0,[],h) (λi x hx hi W=>?_) (λW=>?_)
 . rw [aY Ta Tj];have key:=λh=>key h;simp only [Di] at key;simp at key;simp [ae,Oi];rw [au];simp [key];cases (aZ s.l&&!bu s.l 0)<;>simp
 . have hsx:=λh=>av (z:=1) h hx (cells:=bP) rfl;have hw:=ay hi hlt;have h0:((i:Int)<s.l.length):=by omega
   cases i with
   | zero =>
    have e0:((0:Nat):Int)=0:=rfl;rw [e0] at hsx;by_cases hz:x=0
    . simp [jV,hsx,hi,bP,hz,rizQ]
    . simp [jV,hsx,hi,bP,hz,rizQ,show IntKind.wrap .i64 1=1 from by rw [wrap64]<;>omega]
   | succ k =>
    have hp:=ab (show k<s.l.length by omega);generalize s.l[k]=p at hp;have hsp:=λh=>av (z:=1) h hp (cells:=bP) rfl;have hw2:IntKind.wrap .i64 (((k+1:Nat):Int)-1)=(k:Int):=by rw [wrap64]<;>omega
    have hg:((0:Int)<((k+1:Nat):Int)):=by omega
    generalize ((k+1:Nat):Int)=K at hsx hw h0 hw2 hg ⊢;by_cases hz:x=0
    . simp [jV,hsx,h0,bP,hz,rizQ]
    . by_cases hl:p<x
      . simp [jV,hsx,hsp,h0,bP,hz,rizQ,hw,hw2,hg,hp,hl,show ¬ x<=p by omega]
      . simp [jV,hsx,hsp,h0,bP,hz,rizQ,hw,hw2,hg,hp,hl,show x<=p by omega]
 . simp [jV]
theorem LZ (v:Vw)(hl:v.pods.l.length<2 ^ 62)(bs0:List Blk)(h0:ah bs0 0=some (v.c.map .d)):∃ h',(∃ bs,h'=⟨bs,0⟩/\ah bs 0=some (v.c.map .d))/\Cd E TDp bB (.loop [1,3] dJ) [(1,.ptr 0 0),(3,.d (i64 ((0:Nat):Int)))] ⟨bs0,0⟩=some (cond (fE (λi x=>cu Pod.uid v.pods.l i x&&!bM x) 0 v.pods.l) (.exit 0,[(1,.ptr 0 0)],h') (.ret,[(2,bl false)],h')):=by
 refine mE v.pods.l _ (λi=>[(1,.ptr 0 0),(3,.d (i64 i))]) (λh=>∃ bs,h=⟨bs,0⟩/\ah bs 0=some (v.c.map .d)) (.ret,[(2,bl false)]) (.exit 0,[(1,.ptr 0 0)]) (λi x hx hi h hI=>?_) (λh hI W=>?_) _ ⟨_,rfl,h0⟩
 . obtain ⟨bs,rfl,hb⟩:=hI;have hn:=λh=>av (z:=7) h hx (cells:=Pod.c) rfl;have hw:=ay hi hl;have h0:((i:Int)<v.pods.l.length):=by omega
   have hb2:=λys=>aJ (ys:=ys) hb;refine ⟨⟨bs++[.cells (x.c.map .d)],0⟩,⟨_,rfl,aJ hb⟩,λW=>?_⟩;by_cases a0:(i:Int)>0
   case pos =>
    have a0n:(0<i)=True:=by simp; omega
    obtain ⟨y,j,hij,hy,hj⟩:=pI hl hi a0;have hp:=λh=>av (z:=7) h hy (cells:=Pod.c) rfl;have hk:cu Pod.uid v.pods.l i x=decide (y.uid<x.uid):=by subst hij; simp only [cu,hy]
    by_cases a01:x.uid<=y.uid
    case pos=>simp +decide [dJ,hb,hb2,hn,h0,bM,a0,a0n,hj,hp,hk,a01,show ¬ (y.uid<x.uid) from by omega]
    by_cases c1:x.host<0
    case pos=>simp +decide [dJ,hb,hb2,hn,h0,bM,a0,a0n,hj,hp,hk,a01,show (y.uid<x.uid) from by omega,c1]
    by_cases c2:x.host>9
    case pos=>simp +decide [dJ,hb,hb2,hn,h0,bM,a0,a0n,hj,hp,hk,a01,show (y.uid<x.uid) from by omega,c1,c2]
    by_cases c3:x.port<0
    case pos=>simp +decide [dJ,hb,hb2,hn,h0,bM,a0,a0n,hj,hp,hk,a01,show (y.uid<x.uid) from by omega,c1,c2,c3]
    by_cases c4:x.port>65535
    case pos=>simp +decide [dJ,hb,hb2,hn,h0,bM,a0,a0n,hj,hp,hk,a01,show (y.uid<x.uid) from by omega,c1,c2,c3,c4]
    by_cases c5:(x.ns.size:Int)>64
    case pos=>simp +decide [dJ,hb,hb2,hn,h0,bM,a0,a0n,hj,hp,hk,a01,show (y.uid<x.uid) from by omega,c1,c2,c3,c4,c5]
    by_cases c6:(x.sa.size:Int)>64
    case pos=>simp +decide [dJ,hb,hb2,hn,h0,bM,a0,a0n,hj,hp,hk,a01,show (y.uid<x.uid) from by omega,c1,c2,c3,c4,c5,c6]
    simp +decide [dJ,hb,hb2,hn,h0,bM,a0,a0n,hj,hp,hk,a01,show (y.uid<x.uid) from by omega,c1,c2,c3,c4,c5,c6,hw]
   have hk:cu Pod.uid v.pods.l i x=true:=kE a0;have a0n:(0<i)=False:=by simp; omega
   by_cases c1:x.host<0
   case pos=>simp +decide [dJ,hb,hb2,hn,h0,bM,a0,a0n,hk,c1]
   by_cases c2:x.host>9
   case pos=>simp +decide [dJ,hb,hb2,hn,h0,bM,a0,a0n,hk,c1,c2]
   by_cases c3:x.port<0
   case pos=>simp +decide [dJ,hb,hb2,hn,h0,bM,a0,a0n,hk,c1,c2,c3]
   by_cases c4:x.port>65535
   case pos=>simp +decide [dJ,hb,hb2,hn,h0,bM,a0,a0n,hk,c1,c2,c3,c4]
   by_cases c5:(x.ns.size:Int)>64
   case pos=>simp +decide [dJ,hb,hb2,hn,h0,bM,a0,a0n,hk,c1,c2,c3,c4,c5]
   by_cases c6:(x.sa.size:Int)>64
   case pos=>simp +decide [dJ,hb,hb2,hn,h0,bM,a0,a0n,hk,c1,c2,c3,c4,c5,c6]
   simp +decide [dJ,hb,hb2,hn,h0,bM,a0,a0n,hk,c1,c2,c3,c4,c5,c6,hw]
 . obtain ⟨bs,rfl,hb⟩:=hI;simp [dJ,hb]
theorem L6 (v:Vw)(hl:v.services.l.length<2 ^ 62)(bs0:List Blk)(h0:ah bs0 0=some (v.c.map .d)):∃ h',(∃ bs,h'=⟨bs,0⟩/\ah bs 0=some (v.c.map .d))/\Cd E TDp bB (.loop [1,5] fU) [(1,.ptr 0 0),(5,.d (i64 ((0:Nat):Int)))] ⟨bs0,0⟩=some (cond (fE (λi x=>cu Svc.id v.services.l i x&&!dK x) 0 v.services.l) (.exit 2,[(1,.ptr 0 0)],h') (.ret,[(2,bl false)],h')):=by
 refine mE v.services.l _ (λi=>[(1,.ptr 0 0),(5,.d (i64 i))]) (λh=>∃ bs,h=⟨bs,0⟩/\ah bs 0=some (v.c.map .d)) (.ret,[(2,bl false)]) (.exit 2,[(1,.ptr 0 0)]) (λi x hx hi h hI=>?_) (λh hI W=>?_) _ ⟨_,rfl,h0⟩
 . obtain ⟨bs,rfl,hb⟩:=hI;have hn:=λh=>av (z:=5) h hx (cells:=Svc.c) rfl;have hw:=ay hi hl;have h0:((i:Int)<v.services.l.length):=by omega
   have hb2:=λys=>aJ (ys:=ys) hb;refine ⟨⟨bs++[.cells (x.c.map .d)],0⟩,⟨_,rfl,aJ hb⟩,λW=>?_⟩;by_cases a0:(i:Int)>0
   case pos =>
    have a0n:(0<i)=True:=by simp; omega
    obtain ⟨y,j,hij,hy,hj⟩:=pI hl hi a0;have hp:=λh=>av (z:=5) h hy (cells:=Svc.c) rfl;have hk:cu Svc.id v.services.l i x=decide (y.id<x.id):=by subst hij; simp only [cu,hy]
    by_cases a01:x.id<=y.id
    case pos=>simp +decide [fU,hb,hb2,hn,h0,dK,a0,a0n,hj,hp,hk,a01,show ¬ (y.id<x.id) from by omega]
    by_cases c1:x.port<0
    case pos=>simp +decide [fU,hb,hb2,hn,h0,dK,a0,a0n,hj,hp,hk,a01,show (y.id<x.id) from by omega,c1]
    by_cases c2:x.port>65535
    case pos=>simp +decide [fU,hb,hb2,hn,h0,dK,a0,a0n,hj,hp,hk,a01,show (y.id<x.id) from by omega,c1,c2]
    by_cases c3:(x.ns.size:Int)>64
    case pos=>simp +decide [fU,hb,hb2,hn,h0,dK,a0,a0n,hj,hp,hk,a01,show (y.id<x.id) from by omega,c1,c2,c3]
    simp +decide [fU,hb,hb2,hn,h0,dK,a0,a0n,hj,hp,hk,a01,show (y.id<x.id) from by omega,c1,c2,c3,hw]
   have hk:cu Svc.id v.services.l i x=true:=kE a0;have a0n:(0<i)=False:=by simp; omega
   by_cases c1:x.port<0
   case pos=>simp +decide [fU,hb,hb2,hn,h0,dK,a0,a0n,hk,c1]
   by_cases c2:x.port>65535
   case pos=>simp +decide [fU,hb,hb2,hn,h0,dK,a0,a0n,hk,c1,c2]
   by_cases c3:(x.ns.size:Int)>64
   case pos=>simp +decide [fU,hb,hb2,hn,h0,dK,a0,a0n,hk,c1,c2,c3]
   simp +decide [fU,hb,hb2,hn,h0,dK,a0,a0n,hk,c1,c2,c3,hw]
 . obtain ⟨bs,rfl,hb⟩:=hI;simp [fU,hb]
theorem L8 (v:Vw)(hl:v.bound.l.length<2 ^ 62)(bs0:List Blk)(h0:ah bs0 0=some (v.c.map .d)):∃ h',(∃ bs,h'=⟨bs,0⟩/\ah bs 0=some (v.c.map .d))/\Cd E TDp bB (.loop [1,7] iT) [(1,.ptr 0 0),(7,.d (i64 ((0:Nat):Int)))] ⟨bs0,0⟩=some (cond (fE (λi x=>cu Way.id v.bound.l i x&&!dZ x) 0 v.bound.l) (.exit 4,[(1,.ptr 0 0)],h') (.ret,[(2,bl false)],h')):=by
 refine mE v.bound.l _ (λi=>[(1,.ptr 0 0),(7,.d (i64 i))]) (λh=>∃ bs,h=⟨bs,0⟩/\ah bs 0=some (v.c.map .d)) (.ret,[(2,bl false)]) (.exit 4,[(1,.ptr 0 0)]) (λi x hx hi h hI=>?_) (λh hI W=>?_) _ ⟨_,rfl,h0⟩
 . obtain ⟨bs,rfl,hb⟩:=hI;have hn:=λh=>av (z:=2) h hx (cells:=Way.c) rfl;have hw:=ay hi hl;have h0:((i:Int)<v.bound.l.length):=by omega
   have hb2:=λys=>aJ (ys:=ys) hb;refine ⟨⟨bs++[.cells (x.c.map .d)],0⟩,⟨_,rfl,aJ hb⟩,λW=>?_⟩;by_cases a0:(i:Int)>0
   case pos =>
    have a0n:(0<i)=True:=by simp; omega
    obtain ⟨y,j,hij,hy,hj⟩:=pI hl hi a0;have hp:=λh=>av (z:=2) h hy (cells:=Way.c) rfl;have hk:cu Way.id v.bound.l i x=decide (y.id<x.id):=by subst hij; simp only [cu,hy]
    by_cases a01:x.id<=y.id
    case pos=>simp +decide [iT,hb,hb2,hn,h0,dZ,a0,a0n,hj,hp,hk,a01,show ¬ (y.id<x.id) from by omega]
    by_cases c1:x.node<0
    case pos=>simp +decide [iT,hb,hb2,hn,h0,dZ,a0,a0n,hj,hp,hk,a01,show (y.id<x.id) from by omega,c1]
    by_cases c2:x.node>9
    case pos=>simp +decide [iT,hb,hb2,hn,h0,dZ,a0,a0n,hj,hp,hk,a01,show (y.id<x.id) from by omega,c1,c2]
    simp +decide [iT,hb,hb2,hn,h0,dZ,a0,a0n,hj,hp,hk,a01,show (y.id<x.id) from by omega,c1,c2,hw]
   have hk:cu Way.id v.bound.l i x=true:=kE a0;have a0n:(0<i)=False:=by simp; omega
   by_cases c1:x.node<0
   case pos=>simp +decide [iT,hb,hb2,hn,h0,dZ,a0,a0n,hk,c1]
   by_cases c2:x.node>9
   case pos=>simp +decide [iT,hb,hb2,hn,h0,dZ,a0,a0n,hk,c1,c2]
   simp +decide [iT,hb,hb2,hn,h0,dZ,a0,a0n,hk,c1,c2,hw]
 . obtain ⟨bs,rfl,hb⟩:=hI;simp [iT,hb]
theorem L9 (h288:∀ p:Pol,p.wf big->∀ h,E 29 [ag p.c] h=some (bl (df p),h))(v:Vw)(hl:v.policies.l.length<2 ^ 62)(hw2:∀ p∈v.policies.l,p.wf big)(bs0:List Blk)(h0:ah bs0 0=some (v.c.map .d)):∃ h',(∃ bs,h'=⟨bs,0⟩/\ah bs 0=some (v.c.map .d))/\Cd E TDp bB (.loop [1,9] mK) [(1,.ptr 0 0),(9,.d (i64 ((0:Nat):Int)))] ⟨bs0,0⟩=some (cond (fE (λi x=>cu Pol.id v.policies.l i x&&!(!df x)) 0 v.policies.l) (.exit 6,[],h') (.ret,[(2,bl false)],h')):=by
 refine mE v.policies.l _ (λi=>[(1,.ptr 0 0),(9,.d (i64 i))]) (λh=>∃ bs,h=⟨bs,0⟩/\ah bs 0=some (v.c.map .d)) (.ret,[(2,bl false)]) (.exit 6,[]) (λi x hx hi h hI=>?_) (λh hI W=>?_) _ ⟨_,rfl,h0⟩
 . obtain ⟨bs,rfl,hb⟩:=hI;have hn:=λh=>av (z:=5) h hx (cells:=Pol.c) rfl;have hw:=ay hi hl;have h0:((i:Int)<v.policies.l.length):=by omega
   have hb2:=λys=>aJ (ys:=ys) hb;have n1:=λh=>(aO (E:=E) (T:=TDp) (val:=bB) (f:=29) (by kernel_rfl)).trans (h288 x (hw2 x (cf hx)) h);refine ⟨⟨bs++[.cells (x.c.map .d)],0⟩,⟨_,rfl,aJ hb⟩,λW=>?_⟩;by_cases a0:(i:Int)>0
   case pos =>
    have a0n:(0<i)=True:=by simp; omega
    obtain ⟨y,j,hij,hy,hj⟩:=pI hl hi a0;have hp:=λh=>av (z:=5) h hy (cells:=Pol.c) rfl;have hk:cu Pol.id v.policies.l i x=decide (y.id<x.id):=by subst hij; simp only [cu,hy]
    by_cases a01:x.id<=y.id
    case pos=>simp +decide [mK,hb,hb2,hn,h0,aA,aa,aM,aF,Tr.mute,a0,a0n,hj,hp,hk,a01,show ¬ (y.id<x.id) from by omega]
    cases c1:df x<;>rw [c1] at n1<;>simp +decide [mK,hb,hb2,hn,h0,n1,aA,aa,aM,aF,Tr.mute,a0,a0n,hj,hp,hk,a01,show (y.id<x.id) from by omega,hw,c1]
   have hk:cu Pol.id v.policies.l i x=true:=kE a0;have a0n:(0<i)=False:=by simp; omega
   cases c1:df x<;>rw [c1] at n1<;>simp +decide [mK,hb,hb2,hn,h0,n1,aA,aa,aM,aF,Tr.mute,a0,a0n,hk,hw,c1]
 . obtain ⟨bs,rfl,hb⟩:=hI;simp [mK,hb]
end
section
variable {E:Calls'}
theorem yD {α:Type}(f:α->Int)(p:α->Bool)(l:List α):fE (λi x=>cu f l i x&&!p x) 0 l=(aZ (l.map f)&&!l.any p):=by
 rw [yB,Dh,yC]
theorem Da (h288:∀ p:Pol,p.wf big->∀ h,E 29 [ag p.c] h=some (bl (df p),h))(v:Vw)(hv:v.ok)(hw:∀ p∈v.policies.l,p.wf big)(h:Hp):Sm E TDp bB 9 [v.v] h=some (bl (aT v),h):=by
 have n1:=λh=>Zg (E:=E) hv.1 h;have l1:v.pods.l.length<2 ^ 62:=hv.2.1.lt;have l2:v.services.l.length<2 ^ 62:=hv.2.2.1.lt;have l3:v.bound.l.length<2 ^ 62:=hv.2.2.2.1.lt;have l4:v.policies.l.length<2 ^ 62:=hv.2.2.2.2.1.lt;obtain ⟨h1,⟨b1,rfl,g1⟩,k1⟩:=LZ (E:=E) v l1 [.cells (v.c.map .d)] rfl;obtain ⟨h2,⟨b2,rfl,g2⟩,k2⟩:=L6 (E:=E) v l2 b1 g1;obtain ⟨h3,⟨b3,rfl,g3⟩,k3⟩:=L8 (E:=E) v l3 b2 g2;obtain ⟨h4,⟨b4,rfl,g4⟩,k4⟩:=L9 (E:=E) h288 v l4 hw b3 g3;rw [yD] at k1 k2 k3 k4;have ez:((0:Nat):Int)=0:=rfl;rw [ez] at k1 k2 k3 k4;have hm:aT v=(decide (v.epoch<=4611686018427387903)&&((aZ v.covers.l&&!bu v.covers.l 0)&&(decide ((v.covers.l.length:Int)<=38)&&(decide ((v.pods.l.length:Int)<=16)&&(decide ((v.services.l.length:Int)<=6)&&(decide ((v.bound.l.length:Int)<=4)&&(decide ((v.policies.l.length:Int)<=12) &&
  ((aZ (v.pods.l.map Pod.uid)&&!v.pods.l.any bM)&&((aZ (v.services.l.map Svc.id)&&!v.services.l.any dK)&&((aZ (v.bound.l.map Way.id)&&!v.bound.l.any dZ)&&(aZ (v.policies.l.map Pol.id)&&!v.policies.l.any λp=>!df p))))))))))):=by
  unfold aT qf Jg kG mD;generalize decide (v.epoch<=4611686018427387903)=x1;generalize aZ v.covers.l=x2;generalize bu v.covers.l 0=x3;generalize decide ((v.covers.l.length:Int)<=38)=x4;generalize decide ((v.pods.l.length:Int)<=16)=x5;generalize decide ((v.services.l.length:Int)<=6)=x6;generalize decide ((v.bound.l.length:Int)<=4)=x7;generalize decide ((v.policies.l.length:Int)<=12)=x8;generalize aZ (v.pods.l.map Pod.uid)=y1;generalize aZ (v.services.l.map Svc.id)=y2;generalize aZ (v.bound.l.map Way.id)=y3;generalize aZ (v.policies.l.map Pol.id)=y4;generalize v.pods.l.any bM=z1;generalize v.services.l.any dK=z2;generalize v.bound.l.any dZ=z3;generalize (v.policies.l.any λp=>!df p)=z4;cases x1; · rfl
  cases x2; · rfl
  cases x3<;>cases x4<;>cases x5<;>try (simp; done)
  cases x6<;>cases x7<;>cases x8<;>try (simp; done)
  cases y1<;>cases y2<;>cases y3<;>cases y4<;>cases z1<;>cases z2<;>cases z3<;>cases z4<;>rfl
 rw [hm];generalize (aZ (v.pods.l.map Pod.uid)&&!v.pods.l.any bM)=A1 at *;generalize (aZ (v.services.l.map Svc.id)&&!v.services.l.any dK)=A2 at *;generalize (aZ (v.bound.l.map Way.id)&&!v.bound.l.any dZ)=A3 at *;generalize (aZ (v.policies.l.map Pol.id)&&!v.policies.l.any λp=>!df p)=A4 at *;generalize (aZ v.covers.l&&!bu v.covers.l 0)=A0 at *;rw [aY SS Tc];by_cases c1:v.epoch<=4611686018427387903
 case neg=>simp [ae,uI,c1,show v.epoch>4611686018427387903 from by omega,aj]
 have c1':¬ v.epoch>4611686018427387903:=by omega
 cases A0
 case false=>simp [ae,uI,c1,c1',n1,aj]
 by_cases c2:(v.covers.l.length:Int)<=38
 case neg=>simp [ae,uI,c1,c1',n1,c2,show (v.covers.l.length:Int)>38 from by omega,aj]
 have c2':¬ (v.covers.l.length:Int)>38:=by omega
 by_cases c3:(v.pods.l.length:Int)<=16
 case neg=>simp [ae,uI,c1,c1',n1,c2,c2',c3,show (v.pods.l.length:Int)>16 from by omega,aj]
 have c3':¬ (v.pods.l.length:Int)>16:=by omega
 by_cases c4:(v.services.l.length:Int)<=6
 case neg=>simp [ae,uI,c1,c1',n1,c2,c2',c3,c3',c4,show (v.services.l.length:Int)>6 from by omega,aj]
 have c4':¬ (v.services.l.length:Int)>6:=by omega
 by_cases c5:(v.bound.l.length:Int)<=4
 case neg=>simp [ae,uI,c1,c1',n1,c2,c2',c3,c3',c4,c4',c5,show (v.bound.l.length:Int)>4 from by omega,aj]
 have c5':¬ (v.bound.l.length:Int)>4:=by omega
 by_cases c6:(v.policies.l.length:Int)<=12
 case neg=>simp [ae,uI,c1,c1',n1,c2,c2',c3,c3',c4,c4',c5,c5',c6,show (v.policies.l.length:Int)>12 from by omega,aj]
 have c6':¬ (v.policies.l.length:Int)>12:=by omega
 simp [ae,uI,c1,c1',n1,c2,c2',c3,c3',c4,c4',c5,c5',c6,c6',aj];rw [au];cases A1
 case false=>simp [k1]
 simp [k1];rw [au];cases A2
 case false=>simp [k2]
 simp [k2];rw [au];cases A3
 case false=>simp [k3]
 simp [k3];rw [au];cases A4
 case false=>simp [k4]
 simp [k4]
theorem u7 {s:Sl Int}(hs:short s)(n:Int)(h:Hp):Sm E TDp bB 47 [.d (s.d ak),.d (u64 n)] h=some (bl (bu s.l n),h):=by
 have hlt:=hs.lt;have key:=λh=>bK (E:=E) (T:=TDp) (val:=bB) (keep:=[0,1,5]) (body:=pV) s.l (λx=>!(x==n)) (λi=>[(0,.d (s.d ak)),(1,.d (u64 n)),(5,.d (i64 i))]) h (.ret,[(4,bl true)],h) (.exit 0,[],h) (λi x hx hi W=>?_) (λW=>?_)
 . have hh:(s.l.all λx=>!(x==n))=!bu s.l n:=by
    rw [bu,Bool.eq_iff_iff];simp
   rw [aY S9 Ti];have key:=λh=>key h;rw [hh] at key;simp at key;simp [ae,Oe];rw [au];simp [key];cases bu s.l n<;>simp
 . have hsx:=λh=>av (z:=1) h hx (cells:=ak) rfl;have hw:=ay hi hlt;have h0:((i:Int)<s.l.length):=by omega
   by_cases hq:x=n
   . simp [pV,hsx,h0,ak,hq]
   . simp [pV,hsx,h0,ak,hq,hw]
 . simp [pV]
def yZ (d:Dlt):V:=ag [d.gonePods.d ak,d.goneServices.d ak,d.goneBound.d ak,d.gonePolicies.d ak]
theorem Mm (d:Dlt)(h:Hp):Sm E TDp bB 46 [d.v] h=some (yZ d,h):=by
 rw [aY SY Tf];simp [ae,Od,aN,put];rfl
end
section
variable {E:Calls'}
structure MkF (Q:Nat) (bs0:List Blk) (F:V->List V) (z:Nat) (es:List (List D)) (bs:List Blk) (v:V):Prop where
 old:∀ x,x<bs0.length->x≠Q->bs[x]?=bs0[x]?
 len:bs0.length<=bs.length
 atD:ah bs Q=some (F v)
 lt:Q<bs0.length
 nil:es=[]->v=ai
 row:∃ L M,bs0.length<=L/\M<=bs.length/\Row1 L M bs z es v
section
variable {Q z:Nat}{bs0 bs:List Blk}{F:V->List V}{es:List (List D)}{v:V}
theorem MkF.start (z:Nat)(hD:ah bs0 Q=some (F ai)):MkF Q bs0 F z [] bs0 ai :=
 ⟨λ_ _ _=>rfl,br _,hD,aB hD,λ_=>rfl,bs0.length,bs0.length,br _,br _,by simp,.inl ⟨rfl,rfl⟩⟩
theorem MkF.get (h:MkF Q bs0 F z es bs v){x:Nat}{cs:List V}(hx:x≠Q)(hg:ah bs0 x=some cs):ah bs x=some cs:=ul hg (h.old x (aB hg) hx)
theorem MkF.nu (h:MkF Q bs0 F z es bs v):Go.Proofs.YtllbjfmiilckiaaGreat.nu v=some v:=by
 obtain ⟨L,M,_,_,h⟩:=h.row; exact h.nu
theorem MkF.lay (h:MkF Q bs0 F z es bs v)(ys:List Blk):MkF Q bs0 F z es (bs++ys) v:=by
 obtain ⟨L,M,h1,h2,h3⟩:=h.row;have hl:=h.len;exact ⟨λx hx hd=>by rw [am (by omega)]; exact h.old x hx hd,by simp; omega,aJ h.atD,h.lt,h.nil,L,M,h1,by simp; omega,h3.on λx _ hx=>by rw [am (by omega)]⟩
theorem MkF.app (h:MkF Q bs0 F z es bs v)(hz0:0<z){by_:Nat}(hby:by_<=4096)(hl:es.length<big){e:List D}(he:e.length=z){r:Nat}{cap:Option Nat}(hr:ah bs r=some (e.map .d)) :
 ∃ v' bs',∃ G:Nat->Nat,(∀ lo,fH ⟨bs,lo⟩ z by_ v (.row r 0 1 cap z)=some (v',⟨bs',G lo⟩))/\Go.Proofs.YtllbjfmiilckiaaGreat.nu v'=some v'/\v'.cells=some [v']/\ah bs' Q=some (F v)/\MkF Q bs0 F z (es++[e]) (bs'.set Q (.cells (F v'))) v':=by
 obtain ⟨L,M,h1,h2,h3⟩:=h.row;have hlt:=h.lt;have hle:=h.len;obtain ⟨v',bs',G,a1,a2,a3,a4,a5⟩:=h3.app hz0 hby hl he hr h2;have hD:bs'[Q]?=bs[Q]?:=a4 Q (by omega) (.inl (by omega));refine ⟨v',bs',G,a1,a2.nu,a2.cl,ul h.atD hD,⟨λx hx hd=>by rw [ac (Ne.symm hd),a4 x (by omega) (.inl (by omega))]; exact h.old x hx hd,by simp; omega,aU (ul h.atD hD),hlt,λhh=>by simp at hh,bs.length,bs'.length,hle,by simp,a2.on λx h1 _=>by rw [ac (by omega)]⟩⟩
theorem MkF.dat (h:MkF Q bs0 F z es bs v)(lo k:Nat):dataV ⟨bs,lo⟩ (k+1) v=some (.slice es.isEmpty es):=by
 obtain ⟨L,M,h1,h2,h3⟩:=h.row;exact h3.datE h.nil lo k
end
theorem eH {T:FuncId->Option QF}{val:FuncId->Bool}{keep:List Nat}{body:QC}{α:Type}{cells:α->List D}(l:List α)(q:α->Bool)(f:α->α){Q z:Nat}{bs0:List Blk}{F:V->List V}(env:Nat->EA)(X:Ex×EA)
 (hr:∀ i x,l[i]?=some x->i<l.length->∀ bs lo v es,MkF Q bs0 F z es bs v->es.length<=i->∃ bs' lo' v',MkF Q bs0 F z (if q x then es++[cells (f x)] else es) bs' v'/\∀ W:EA->Hp->d9,bY keep W (Cd E T val body (bE keep (env i)) ⟨bs,lo⟩)=W (env (i+1)) ⟨bs',lo'⟩)
 (he:∀ bs lo v es,MkF Q bs0 F z es bs v->∀ W:EA->Hp->d9,bY keep W (Cd E T val body (bE keep (env l.length)) ⟨bs,lo⟩)=some (X.1,X.2,⟨bs,lo⟩)) (lo:Nat) (hD:ah bs0 Q=some (F ai)) :
 ∃ bs' lo' v',Cd E T val (.loop keep body) (env 0) ⟨bs0,lo⟩=some (X.1,X.2,⟨bs',lo'⟩)/\MkF Q bs0 F z (((l.filter q).map f).map cells) bs' v':=by
 obtain ⟨bs',lo',h1,v',h2⟩:=jE (E:=E) (T:=T) (val:=val) (keep:=keep) (body:=body) l.length env (λi bs=>∃ v,MkF Q bs0 F z ((((l.take i).filter q).map f).map cells) bs v) X
  (λi hi bs lo ⟨v,hv⟩=>by
    have hx:=ab hi;have htk:l.take (i+1)=l.take i++[l[i]]:=by rw [List.take_add_one,hx]; rfl
    generalize l[i]=x at hx htk;obtain ⟨bs',lo',v',g1,g2⟩:=hr i x hx hi bs lo v _ hv (by
     have:=List.length_filter_le q (l.take i);simp only [b9];rw [List.length_take] at this; omega)
    refine ⟨bs',lo',⟨v',?_⟩,g2⟩;rw [htk,List.filter_append];cases hq:q x<;>simp [hq] at g1 ⊢<;>exact g1)
  (λbs lo ⟨v,hv⟩ W=>he bs lo v _ hv W) bs0 lo ⟨ai,MkF.start z hD⟩
 rw [List.take_length] at h2;exact ⟨bs',lo',v',h1,h2⟩
theorem MkF.datL {Q z:Nat}{bs0 bs bs':List Blk}{F:V->List V}{es:List (List D)}{v:V}(h:MkF Q bs0 F z es bs v)(ho:∀ x,Q<x->x<bs.length->bs'[x]?=bs[x]?)(lo:Nat):dataV ⟨bs',lo⟩ 8 v=some (.slice es.isEmpty es):=by
 obtain ⟨L,M,h1,h2,h3⟩:=h.row;have:=h.lt;exact (h3.on λx hx hy=>ho x (by omega) (by omega)).datE h.nil lo 7
theorem Ma (w:Vw)(hl:w.pods.l.length<big){bs0:List Blk}(b0:ah bs0 0=some (w.c.map .d))(hD:ah bs0 2=some ((λv:V=>[v,.d (.slice true []),.d (.slice true []),.d (.slice true [])]) ai))(lo:Nat) :
 ∃ bs' lo' v',Cd E TDp bB (.loop [1,2,3,4] pO) [(1,.ptr 0 0),(2,.ptr 1 0),(3,.ptr 2 0),(4,.d (i64 ((0:Nat):Int)))] ⟨bs0,lo⟩=some (.exit 0,[(1,.ptr 0 0),(2,.ptr 1 0),(3,.ptr 2 0)],⟨bs',lo'⟩)/\MkF 2 bs0 (λv=>[v,.d (.slice true []),.d (.slice true []),.d (.slice true [])]) 1 ((w.pods.l.map Pod.uid).map ak) bs' v':=by
 have hlt:w.pods.l.length<2 ^ 62:=cg hl (by decide);have key:=eH (E:=E) (T:=TDp) (val:=bB) (keep:=[1,2,3,4]) (body:=pO) (cells:=λx:Pod=>ak x.uid) w.pods.l (λ_=>true) id (Q:=2) (z:=1) (bs0:=bs0) (F:=λv=>[v,.d (.slice true []),.d (.slice true []),.d (.slice true [])]) (λi=>[(1,.ptr 0 0),(2,.ptr 1 0),(3,.ptr 2 0),(4,.d (i64 i))]) (.exit 0,[(1,.ptr 0 0),(2,.ptr 1 0),(3,.ptr 2 0)]) (λi x hx hi bs lo v es hM hes=>?_) (λbs lo v es hM W=>?_) lo hD
 . have hft:w.pods.l.filter (λ_=>true)=w.pods.l:=List.filter_eq_self.2 λ_ _=>rfl;rw [hft] at key;simpa [co] using key
 . have hsx:=λh=>av (z:=7) h hx (cells:=Pod.c) rfl;have hw:=ay hi hlt;have h0:((i:Int)<w.pods.l.length):=by omega
   have hM1:=hM.lay [.cells ((ak x.uid).map .d)];have g0:=hM.get (x:=0) (by omega) b0;have gD:=hM.atD;have gD':=λys=>aJ (ys:=ys) hM.atD;have hnu:=hM.nu;have hix:∀ hp,bg (some 4) 1 (.ptr 2 0) (.d (.int .i64 0)) hp=some (.ptr 2 0,hp):=λhp=>rfl;obtain ⟨v',bs',G,a1,a2,a3,a4,a5⟩:=hM1.app (by decide) (by_:=8) (by decide) (by omega) (e:=ak x.uid) rfl (r:=bs.length) (cap:=some 1) (by simp);refine ⟨_,min (G lo) 2,v',by simpa using a5,λW=>?_⟩;simp [ak] at a1;simp [pO,g0,gD,gD',aB gD,hix,hsx,h0,hw,hnu,a1,a2,a3,a4,ak,aN,aA,aa,aM,aG,Tr.spares,List.range,List.range.loop,aj]
 . have g0:=hM.get (x:=0) (by omega) b0;simp [pO,g0]
theorem Mc (w:Vw)(hl:w.services.l.length<big){n0:V}{bs0:List Blk}(b0:ah bs0 0=some (w.c.map .d))(hD:ah bs0 2=some ((λv:V=>[n0,v,.d (.slice true []),.d (.slice true [])]) ai))(lo:Nat) :
 ∃ bs' lo' v',Cd E TDp bB (.loop [1,2,3,5] pQ) [(1,.ptr 0 0),(2,.ptr 1 0),(3,.ptr 2 0),(5,.d (i64 ((0:Nat):Int)))] ⟨bs0,lo⟩=some (.exit 2,[(1,.ptr 0 0),(2,.ptr 1 0),(3,.ptr 2 0)],⟨bs',lo'⟩)/\MkF 2 bs0 (λv=>[n0,v,.d (.slice true []),.d (.slice true [])]) 1 ((w.services.l.map Svc.id).map ak) bs' v':=by
 have hlt:w.services.l.length<2 ^ 62:=cg hl (by decide);have key:=eH (E:=E) (T:=TDp) (val:=bB) (keep:=[1,2,3,5]) (body:=pQ) (cells:=λx:Svc=>ak x.id) w.services.l (λ_=>true) id (Q:=2) (z:=1) (bs0:=bs0) (F:=λv=>[n0,v,.d (.slice true []),.d (.slice true [])]) (λi=>[(1,.ptr 0 0),(2,.ptr 1 0),(3,.ptr 2 0),(5,.d (i64 i))]) (.exit 2,[(1,.ptr 0 0),(2,.ptr 1 0),(3,.ptr 2 0)]) (λi x hx hi bs lo v es hM hes=>?_) (λbs lo v es hM W=>?_) lo hD
 . have hft:w.services.l.filter (λ_=>true)=w.services.l:=List.filter_eq_self.2 λ_ _=>rfl;rw [hft] at key;simpa [co] using key
 . have hsx:=λh=>av (z:=5) h hx (cells:=Svc.c) rfl;have hw:=ay hi hlt;have h0:((i:Int)<w.services.l.length):=by omega
   have hM1:=hM.lay [.cells ((ak x.id).map .d)];have g0:=hM.get (x:=0) (by omega) b0;have gD:=hM.atD;have gD':=λys=>aJ (ys:=ys) hM.atD;have hnu:=hM.nu;have hix:∀ hp,bg (some 4) 1 (.ptr 2 0) (.d (.int .i64 1)) hp=some (.ptr 2 1,hp):=λhp=>rfl;obtain ⟨v',bs',G,a1,a2,a3,a4,a5⟩:=hM1.app (by decide) (by_:=8) (by decide) (by omega) (e:=ak x.id) rfl (r:=bs.length) (cap:=some 1) (by simp);refine ⟨_,min (G lo) 2,v',by simpa using a5,λW=>?_⟩;simp [ak] at a1;simp [pQ,g0,gD,gD',aB gD,hix,hsx,h0,hw,hnu,a1,a2,a3,a4,ak,aN,aA,aa,aM,aG,Tr.spares,List.range,List.range.loop,aj]
 . have g0:=hM.get (x:=0) (by omega) b0;simp [pQ,g0]
theorem Md (w:Vw)(hl:w.bound.l.length<big){n0 n1:V}{bs0:List Blk}(b0:ah bs0 0=some (w.c.map .d))(hD:ah bs0 2=some ((λv:V=>[n0,n1,v,.d (.slice true [])]) ai))(lo:Nat) :
 ∃ bs' lo' v',Cd E TDp bB (.loop [1,2,3,6] pR) [(1,.ptr 0 0),(2,.ptr 1 0),(3,.ptr 2 0),(6,.d (i64 ((0:Nat):Int)))] ⟨bs0,lo⟩=some (.exit 4,[(1,.ptr 0 0),(2,.ptr 1 0),(3,.ptr 2 0)],⟨bs',lo'⟩)/\MkF 2 bs0 (λv=>[n0,n1,v,.d (.slice true [])]) 1 ((w.bound.l.map Way.id).map ak) bs' v':=by
 have hlt:w.bound.l.length<2 ^ 62:=cg hl (by decide);have key:=eH (E:=E) (T:=TDp) (val:=bB) (keep:=[1,2,3,6]) (body:=pR) (cells:=λx:Way=>ak x.id) w.bound.l (λ_=>true) id (Q:=2) (z:=1) (bs0:=bs0) (F:=λv=>[n0,n1,v,.d (.slice true [])]) (λi=>[(1,.ptr 0 0),(2,.ptr 1 0),(3,.ptr 2 0),(6,.d (i64 i))]) (.exit 4,[(1,.ptr 0 0),(2,.ptr 1 0),(3,.ptr 2 0)]) (λi x hx hi bs lo v es hM hes=>?_) (λbs lo v es hM W=>?_) lo hD
 . have hft:w.bound.l.filter (λ_=>true)=w.bound.l:=List.filter_eq_self.2 λ_ _=>rfl;rw [hft] at key;simpa [co] using key
 . have hsx:=λh=>av (z:=2) h hx (cells:=Way.c) rfl;have hw:=ay hi hlt;have h0:((i:Int)<w.bound.l.length):=by omega
   have hM1:=hM.lay [.cells ((ak x.id).map .d)];have g0:=hM.get (x:=0) (by omega) b0;have gD:=hM.atD;have gD':=λys=>aJ (ys:=ys) hM.atD;have hnu:=hM.nu;have hix:∀ hp,bg (some 4) 1 (.ptr 2 0) (.d (.int .i64 2)) hp=some (.ptr 2 2,hp):=λhp=>rfl;obtain ⟨v',bs',G,a1,a2,a3,a4,a5⟩:=hM1.app (by decide) (by_:=8) (by decide) (by omega) (e:=ak x.id) rfl (r:=bs.length) (cap:=some 1) (by simp);refine ⟨_,min (G lo) 2,v',by simpa using a5,λW=>?_⟩;simp [ak] at a1;simp [pR,g0,gD,gD',aB gD,hix,hsx,h0,hw,hnu,a1,a2,a3,a4,ak,aN,aA,aa,aM,aG,Tr.spares,List.range,List.range.loop,aj]
 . have g0:=hM.get (x:=0) (by omega) b0;simp [pR,g0]
theorem Me (w:Vw)(hl:w.policies.l.length<big){n0 n1 n2:V}{bs0:List Blk}(b0:ah bs0 0=some (w.c.map .d))(hD:ah bs0 2=some ((λv:V=>[n0,n1,n2,v]) ai))(lo:Nat) :
 ∃ bs' lo' v',Cd E TDp bB (.loop [1,2,3,7] pU) [(1,.ptr 0 0),(2,.ptr 1 0),(3,.ptr 2 0),(7,.d (i64 ((0:Nat):Int)))] ⟨bs0,lo⟩=some (.exit 6,[(2,.ptr 1 0),(3,.ptr 2 0)],⟨bs',lo'⟩)/\MkF 2 bs0 (λv=>[n0,n1,n2,v]) 1 ((w.policies.l.map Pol.id).map ak) bs' v':=by
 have hlt:w.policies.l.length<2 ^ 62:=cg hl (by decide);have key:=eH (E:=E) (T:=TDp) (val:=bB) (keep:=[1,2,3,7]) (body:=pU) (cells:=λx:Pol=>ak x.id) w.policies.l (λ_=>true) id (Q:=2) (z:=1) (bs0:=bs0) (F:=λv=>[n0,n1,n2,v]) (λi=>[(1,.ptr 0 0),(2,.ptr 1 0),(3,.ptr 2 0),(7,.d (i64 i))]) (.exit 6,[(2,.ptr 1 0),(3,.ptr 2 0)]) (λi x hx hi bs lo v es hM hes=>?_) (λbs lo v es hM W=>?_) lo hD
 . have hft:w.policies.l.filter (λ_=>true)=w.policies.l:=List.filter_eq_self.2 λ_ _=>rfl;rw [hft] at key;simpa [co] using key
 . have hsx:=λh=>av (z:=5) h hx (cells:=Pol.c) rfl;have hw:=ay hi hlt;have h0:((i:Int)<w.policies.l.length):=by omega
   have hM1:=hM.lay [.cells ((ak x.id).map .d)];have g0:=hM.get (x:=0) (by omega) b0;have gD:=hM.atD;have gD':=λys=>aJ (ys:=ys) hM.atD;have hnu:=hM.nu;have hix:∀ hp,bg (some 4) 1 (.ptr 2 0) (.d (.int .i64 3)) hp=some (.ptr 2 3,hp):=λhp=>rfl;obtain ⟨v',bs',G,a1,a2,a3,a4,a5⟩:=hM1.app (by decide) (by_:=8) (by decide) (by omega) (e:=ak x.id) rfl (r:=bs.length) (cap:=some 1) (by simp);refine ⟨_,min (G lo) 2,v',by simpa using a5,λW=>?_⟩;simp [ak] at a1;simp [pU,g0,gD,gD',aB gD,hix,hsx,h0,hw,hnu,a1,a2,a3,a4,ak,aN,aA,aa,aM,aG,Tr.spares,List.range,List.range.loop,aj]
 . have g0:=hM.get (x:=0) (by omega) b0;simp [pU,g0]
def uA (w:Vw):V:=ag [(bn (w.pods.l.map Pod.uid)).d ak,(bn (w.services.l.map Svc.id)).d ak,(bn (w.bound.l.map Way.id)).d ak,(bn (w.policies.l.map Pol.id)).d ak]
theorem Ml (w:Vw)(h1:w.pods.l.length<big)(h2:w.services.l.length<big)(h3:w.bound.l.length<big)(h4:w.policies.l.length<big)(h:Hp):Sm E TDp bB 45 [w.v] h=some (uA w,h):=by
 obtain ⟨m1,lo1,n0,a1,K1⟩:=Ma (E:=E) w h1 (bs0:=[.cells (w.c.map .d),.cells [.d (.slice true []),.d (.slice true []),.d (.slice true []),.d (.slice true [])],.cells [.d (.slice true []),.d (.slice true []),.d (.slice true []),.d (.slice true [])]]) rfl rfl 0;have f0:=K1.get (x:=0) (by omega) rfl;have f1:=K1.get (x:=1) (by omega) rfl;obtain ⟨m2,lo2,n1,a2,K2⟩:=Mc (E:=E) w h2 f0 K1.atD lo1;have f0:=K2.get (by omega) f0;have f1:=K2.get (by omega) f1;obtain ⟨m3,lo3,n2,a3,K3⟩:=Md (E:=E) w h3 f0 K2.atD lo2;have f0:=K3.get (by omega) f0;have f1:=K3.get (by omega) f1;obtain ⟨m4,lo4,n3,a4,K4⟩:=Me (E:=E) w h4 f0 K3.atD lo3;have f0:=K4.get (by omega) f0;have f1:=K4.get (by omega) f1;have d4:=K4.atD;have e1:=K1.len;have e2:=K2.len;have e3:=K3.len;have e4:=K4.len;simp at e1;have b3:∀ y,y<m3.length->y≠2->m4[y]?=m3[y]?:=K4.old;have b2:∀ y,y<m2.length->y≠2->m4[y]?=m2[y]?:=λy hy hn=>(b3 y (by omega) hn).trans (K3.old y hy hn);have b1:∀ y,y<m1.length->y≠2->m4[y]?=m1[y]?:=λy hy hn=>(b2 y (by omega) hn).trans (K2.old y hy hn);have t1:∀ X lo,dataV ⟨m4.set 1 (.cells X),lo⟩ 8 n0=_:=λX lo=>K1.datL (λy h1 h2=>by rw [ac (by omega),b1 y h2 (by omega)]) lo;have t2:∀ X lo,dataV ⟨m4.set 1 (.cells X),lo⟩ 8 n1=_:=λX lo=>K2.datL (λy h1 h2=>by rw [ac (by omega),b2 y h2 (by omega)]) lo
 have t3:∀ X lo,dataV ⟨m4.set 1 (.cells X),lo⟩ 8 n2=_:=λX lo=>K3.datL (λy h1 h2=>by rw [ac (by omega),b3 y h2 (by omega)]) lo;have t4:∀ X lo,dataV ⟨m4.set 1 (.cells X),lo⟩ 8 n3=_:=λX lo=>K4.datL (λy h1 h2=>by rw [ac (by omega)]) lo;have ez:((0:Nat):Int)=0:=rfl;rw [ez] at a1 a2 a3 a4;have s1:∀ X,ah (m4.set 1 (.cells X)) 1=some X:=λX=>aU f1;have hcv:∀ X lo,bG ⟨m4.set 1 (.cells X),lo⟩ [n0,n1,n2,n3]=some [(bn (w.pods.l.map Pod.uid)).d ak,(bn (w.services.l.map Svc.id)).d ak,(bn (w.bound.l.map Way.id)).d ak,(bn (w.policies.l.map Pol.id)).d ak]:=λX lo=>by
  simp only [bG,List.mapM_cons,List.mapM_nil,t1,t2,t3,t4];simp [bn,Sl.d]
 rw [aY SX Te];simp [ae,Oc];rw [au];simp [a1];rw [au];simp [a2];rw [au];simp [a3];rw [au];simp [a4,f1,d4,s1,hcv,uA]
end
set_option maxHeartbeats 2000000
section
variable {E:Calls'}
def WL:List (Nat×QF):=[(17,r67)]
def TDd:FuncId->Option QF:=gI WL
def bR (f:FuncId):Bool:=Nat.beq 17 f
theorem Rx:TDd 17=some r67:=by kernel_rfl
theorem Tm:bR 17=true:=by kernel_rfl
def ni (p:Sl Pod)(s:Sl Svc)(w:Sl Way):Cfg:=⟨0,0,0,0,p,s,w,⟨true,[]⟩⟩
theorem tJ {p:Sl Pod}{s:Sl Svc}{w:Sl Way}(hp:short p)(hs:short s)(hw:short w):(ni p s w).ok:=⟨hp,hs,hw,⟨Nat.zero_le _,λ_=>rfl⟩,λp hp=>by cases hp⟩
def Be:Sl Pod:=⟨true,[]⟩
def Bf:Sl Svc:=⟨true,[]⟩
def Bg:Sl Way:=⟨true,[]⟩
theorem Gt:short Be:=⟨Nat.zero_le _,λ_=>rfl⟩
theorem Gu:short Bf:=⟨Nat.zero_le _,λ_=>rfl⟩
theorem Gv:short Bg:=⟨Nat.zero_le _,λ_=>rfl⟩
structure DocDiffE (E:Calls'):Prop where
 h178:∀ v:Vw,v.ok->(∀ p∈v.policies.l,p.wf big)->∀ h,E 9 [v.v] h=some (bl (aT v),h)
 h46:∀ (c:Cfg),c.ok->∀ n h,E 60 [c.v,.d (u64 n)] h=some (.d (i64 (gp c.pods.l λp=>p.uid==n)),h)
 h111:∀ (c:Cfg),c.ok->∀ n h,E 61 [c.v,.d (u64 n)] h=some (.d (i64 (gp c.services.l λp=>p.id==n)),h)
 h112:∀ (c:Cfg),c.ok->∀ n h,E 62 [c.v,.d (u64 n)] h=some (.d (i64 (gp c.bound.l λp=>p.id==n)),h)
 h29:∀ a b:Pol,a.ok->∀ h,E 63 [ag a.c,ag b.c] h=some (bl (a.same b),h)
 h35:∀ p:Pol,p.fits big->∀ h,E 64 [ag p.c] h=some (ag p.cp.c,h)
 h180:∀ w:Vw,w.pods.l.length<big->w.services.l.length<big->w.bound.l.length<big->w.policies.l.length<big->∀ h,E 45 [w.v] h=some (uA w,h)
 h182:∀ s:Sl Int,short s->∀ n h,E 47 [.d (s.d ak),.d (u64 n)] h=some (bl (bu s.l n),h)
def bT {α:Type}(key:α->Int)(eqB:α->α->Bool)(a:List α)(x:α):Bool:=match a.find? λy=>key y==key x with
 | none=>true
 | some y=>!eqB y x
section
variable (H:DocDiffE E)
include H
theorem Qx {a b:Vw}(ha:a.ok)(hl:b.pods.l.length<big){Q:Nat}{ep:Int}{x1:V}{bs0:List Blk}(b0:ah bs0 0=some (a.c.map .d))(b1:ah bs0 1=some (b.c.map .d))(hQ:1<Q)(hD:ah bs0 Q=some ((λv=>dcV ep x1 v ai ai ai ai ai ai ai) ai))(lo:Nat) :
 ∃ bs' lo' v',Cd E TDd bR (.loop [2,3,4,6,7] nX) [(2,.ptr 0 0),(3,.ptr 1 0),(4,.ptr 2 0),(6,.ptr Q 0),(7,.d (i64 ((0:Nat):Int)))] ⟨bs0,lo⟩=some (.exit 0,[(2,.ptr 0 0),(3,.ptr 1 0),(4,.ptr 2 0),(6,.ptr Q 0)],⟨bs',lo'⟩)/\MkF Q bs0 (λv=>dcV ep x1 v ai ai ai ai ai ai ai) 7 ((b.pods.l.filter (bT Pod.uid Pod.eqB a.pods.l)).map Pod.c) bs' v':=by
 have hlt:b.pods.l.length<2 ^ 62:=cg hl (by decide);have key:=eH (E:=E) (T:=TDd) (val:=bR) (keep:=[2,3,4,6,7]) (body:=nX) (cells:=Pod.c) b.pods.l (bT Pod.uid Pod.eqB a.pods.l) id (Q:=Q) (z:=7) (bs0:=bs0) (F:=λv=>dcV ep x1 v ai ai ai ai ai ai ai) (λi=>[(2,.ptr 0 0),(3,.ptr 1 0),(4,.ptr 2 0),(6,.ptr Q 0),(7,.d (i64 i))]) (.exit 0,[(2,.ptr 0 0),(3,.ptr 1 0),(4,.ptr 2 0),(6,.ptr Q 0)]) (λi x hx hi bs lo v es hM hes=>?_) (λbs lo v es hM W=>?_) lo hD
 . simpa using key
 . have hsx:=λh=>av (z:=7) h hx (cells:=Pod.c) rfl;have hw:=ay hi hlt;have h0:((i:Int)<b.pods.l.length):=by omega
   have g0:=hM.get (x:=0) (by omega) b0;have g1:=hM.get (x:=1) (by omega) b1;have n46:=λh=>(aO (E:=E) (T:=TDd) (val:=bR) (f:=60) (by kernel_rfl)).trans (H.h46 (ni a.pods Bf Bg) (tJ ha.2.1 Gu Gv) x.uid h);have hcv:(ni a.pods Bf Bg).v=.agg [.d (.int .u64 0),.d (.int .u64 0),.d (i64 0),.d (i64 0),.d (a.pods.d Pod.c),.d (.slice true []),.d (.slice true []),.d (.slice true [])]:=rfl;rw [hcv] at n46;have hid:∀ n,gp (ni a.pods Bf Bg).pods.l (λp=>p.uid==n)=gp a.pods.l (λp=>p.uid==n):=λ_=>rfl;rw [hid] at n46;have gD:=hM.atD;have hput:put [V.d (.int .u64 0),.d (.str ⟨#[]⟩),.d (.str ⟨#[]⟩),.d (.int .i64 0),.d (.int .u32 0),.d (.int .i64 0),.d (.int .u64 0)] 0 (x.c.map V.d)=some (x.c.map V.d):=rfl;have hnu:=hM.nu;obtain ⟨c1,c2⟩ | ⟨k,e,c1,c2,c3⟩:=gH a.pods.l (λp=>p.uid==x.uid)
   . have hq:bT Pod.uid Pod.eqB a.pods.l x=true:=by simp [bT,c1]
     rw [c2] at n46;have hM1:=hM.lay [.cells (x.c.map .d)];obtain ⟨v',bs',G,a1,a2,a3,a4,a5⟩:=hM1.app (by decide) (by_:=72) (by decide) (by omega) (e:=x.c) rfl (r:=bs.length) (cap:=some 1) (by simp);refine ⟨_,min (G lo) Q,v',by rw [hq]; simpa using a5,λW=>?_⟩;simp +decide [nX,g0,g1,gD,aB gD,hsx,h0,hw,hnu,n46,a1,a2,a3,a4,hput,dcV,aN,aA,aa,aM,aF,Tr.mute,aG,Tr.spares,List.range,List.range.loop,aj]
   . have hsy:=λh=>av (z:=7) h c3 (cells:=Pod.c) rfl;rw [c2] at n46;have hk0:¬ ((k:Int)<0):=by omega
     cases he:Pod.eqB e x with
     | true =>
      have hq:bT Pod.uid Pod.eqB a.pods.l x=false:=by simp [bT,c1,he]
      refine ⟨bs,lo,v,by rw [hq]; exact hM,λW=>?_⟩;simp +decide [nX,g0,g1,gD,aB gD,hsx,hsy,h0,hw,hnu,n46,hk0,he,dcV,aN,aA,aa,aM,aF,Tr.mute,aG,Tr.spares,List.range,List.range.loop,aj]
     | false =>
      have hq:bT Pod.uid Pod.eqB a.pods.l x=true:=by simp [bT,c1,he]
      have hM1:=hM.lay [.cells (x.c.map .d)];obtain ⟨v',bs',G,a1,a2,a3,a4,a5⟩:=hM1.app (by decide) (by_:=72) (by decide) (by omega) (e:=x.c) rfl (r:=bs.length) (cap:=some 1) (by simp);refine ⟨_,min (G lo) Q,v',by rw [hq]; simpa using a5,λW=>?_⟩;simp +decide [nX,g0,g1,gD,aB gD,hsx,hsy,h0,hw,hnu,n46,hk0,he,a1,a2,a3,a4,hput,dcV,aN,aA,aa,aM,aF,Tr.mute,aG,Tr.spares,List.range,List.range.loop,aj]
 . have g1:=hM.get (x:=1) (by omega) b1;simp [nX,g1]
theorem Qy {a b:Vw}(ha:a.ok)(hl:b.services.l.length<big){Q:Nat}{ep:Int}{x1:V}{x2:V}{bs0:List Blk}(b0:ah bs0 0=some (a.c.map .d))(b1:ah bs0 1=some (b.c.map .d))(hQ:1<Q)(hD:ah bs0 Q=some ((λv=>dcV ep x1 x2 v ai ai ai ai ai ai) ai))(lo:Nat) :
 ∃ bs' lo' v',Cd E TDd bR (.loop [2,3,4,6,9] nY) [(2,.ptr 0 0),(3,.ptr 1 0),(4,.ptr 2 0),(6,.ptr Q 0),(9,.d (i64 ((0:Nat):Int)))] ⟨bs0,lo⟩=some (.exit 2,[(2,.ptr 0 0),(3,.ptr 1 0),(4,.ptr 2 0),(6,.ptr Q 0)],⟨bs',lo'⟩)/\MkF Q bs0 (λv=>dcV ep x1 x2 v ai ai ai ai ai ai) 5 ((b.services.l.filter (bT Svc.id Svc.eqB a.services.l)).map Svc.c) bs' v':=by
 have hlt:b.services.l.length<2 ^ 62:=cg hl (by decide);have key:=eH (E:=E) (T:=TDd) (val:=bR) (keep:=[2,3,4,6,9]) (body:=nY) (cells:=Svc.c) b.services.l (bT Svc.id Svc.eqB a.services.l) id (Q:=Q) (z:=5) (bs0:=bs0) (F:=λv=>dcV ep x1 x2 v ai ai ai ai ai ai) (λi=>[(2,.ptr 0 0),(3,.ptr 1 0),(4,.ptr 2 0),(6,.ptr Q 0),(9,.d (i64 i))]) (.exit 2,[(2,.ptr 0 0),(3,.ptr 1 0),(4,.ptr 2 0),(6,.ptr Q 0)]) (λi x hx hi bs lo v es hM hes=>?_) (λbs lo v es hM W=>?_) lo hD
 . simpa using key
 . have hsx:=λh=>av (z:=5) h hx (cells:=Svc.c) rfl;have hw:=ay hi hlt;have h0:((i:Int)<b.services.l.length):=by omega
   have g0:=hM.get (x:=0) (by omega) b0;have g1:=hM.get (x:=1) (by omega) b1;have n46:=λh=>(aO (E:=E) (T:=TDd) (val:=bR) (f:=61) (by kernel_rfl)).trans (H.h111 (ni Be a.services Bg) (tJ Gt ha.2.2.1 Gv) x.id h);have hcv:(ni Be a.services Bg).v=.agg [.d (.int .u64 0),.d (.int .u64 0),.d (i64 0),.d (i64 0),.d (.slice true []),.d (a.services.d Svc.c),.d (.slice true []),.d (.slice true [])]:=rfl;rw [hcv] at n46;have hid:∀ n,gp (ni Be a.services Bg).services.l (λp=>p.id==n)=gp a.services.l (λp=>p.id==n):=λ_=>rfl;rw [hid] at n46;have gD:=hM.atD;have hput:put [V.d (.int .u64 0),.d (.str ⟨#[]⟩),.d (.int .u32 0),.d (.int .i64 0),.d (.int .u64 0)] 0 (x.c.map V.d)=some (x.c.map V.d):=rfl;have hnu:=hM.nu;obtain ⟨c1,c2⟩ | ⟨k,e,c1,c2,c3⟩:=gH a.services.l (λp=>p.id==x.id)
   . have hq:bT Svc.id Svc.eqB a.services.l x=true:=by simp [bT,c1]
     rw [c2] at n46;have hM1:=hM.lay [.cells (x.c.map .d)];obtain ⟨v',bs',G,a1,a2,a3,a4,a5⟩:=hM1.app (by decide) (by_:=48) (by decide) (by omega) (e:=x.c) rfl (r:=bs.length) (cap:=some 1) (by simp);refine ⟨_,min (G lo) Q,v',by rw [hq]; simpa using a5,λW=>?_⟩;simp +decide [nY,g0,g1,gD,aB gD,hsx,h0,hw,hnu,n46,a1,a2,a3,a4,hput,dcV,aN,aA,aa,aM,aF,Tr.mute,aG,Tr.spares,List.range,List.range.loop,aj]
   . have hsy:=λh=>av (z:=5) h c3 (cells:=Svc.c) rfl;rw [c2] at n46;have hk0:¬ ((k:Int)<0):=by omega
     cases he:Svc.eqB e x with
     | true =>
      have hq:bT Svc.id Svc.eqB a.services.l x=false:=by simp [bT,c1,he]
      refine ⟨bs,lo,v,by rw [hq]; exact hM,λW=>?_⟩;simp +decide [nY,g0,g1,gD,aB gD,hsx,hsy,h0,hw,hnu,n46,hk0,he,dcV,aN,aA,aa,aM,aF,Tr.mute,aG,Tr.spares,List.range,List.range.loop,aj]
     | false =>
      have hq:bT Svc.id Svc.eqB a.services.l x=true:=by simp [bT,c1,he]
      have hM1:=hM.lay [.cells (x.c.map .d)];obtain ⟨v',bs',G,a1,a2,a3,a4,a5⟩:=hM1.app (by decide) (by_:=48) (by decide) (by omega) (e:=x.c) rfl (r:=bs.length) (cap:=some 1) (by simp);refine ⟨_,min (G lo) Q,v',by rw [hq]; simpa using a5,λW=>?_⟩;simp +decide [nY,g0,g1,gD,aB gD,hsx,hsy,h0,hw,hnu,n46,hk0,he,a1,a2,a3,a4,hput,dcV,aN,aA,aa,aM,aF,Tr.mute,aG,Tr.spares,List.range,List.range.loop,aj]
 . have g1:=hM.get (x:=1) (by omega) b1;simp [nY,g1]
theorem Qz {a b:Vw}(ha:a.ok)(hl:b.bound.l.length<big){Q:Nat}{ep:Int}{x1:V}{x2 x3:V}{bs0:List Blk}(b0:ah bs0 0=some (a.c.map .d))(b1:ah bs0 1=some (b.c.map .d))(hQ:1<Q)(hD:ah bs0 Q=some ((λv=>dcV ep x1 x2 x3 v ai ai ai ai ai) ai))(lo:Nat) :
 ∃ bs' lo' v',Cd E TDd bR (.loop [2,3,4,6,11] nZ) [(2,.ptr 0 0),(3,.ptr 1 0),(4,.ptr 2 0),(6,.ptr Q 0),(11,.d (i64 ((0:Nat):Int)))] ⟨bs0,lo⟩=some (.exit 4,[(2,.ptr 0 0),(3,.ptr 1 0),(4,.ptr 2 0),(6,.ptr Q 0)],⟨bs',lo'⟩)/\MkF Q bs0 (λv=>dcV ep x1 x2 x3 v ai ai ai ai ai) 2 ((b.bound.l.filter (bT Way.id Way.eqB a.bound.l)).map Way.c) bs' v':=by
 have hlt:b.bound.l.length<2 ^ 62:=cg hl (by decide);have key:=eH (E:=E) (T:=TDd) (val:=bR) (keep:=[2,3,4,6,11]) (body:=nZ) (cells:=Way.c) b.bound.l (bT Way.id Way.eqB a.bound.l) id (Q:=Q) (z:=2) (bs0:=bs0) (F:=λv=>dcV ep x1 x2 x3 v ai ai ai ai ai) (λi=>[(2,.ptr 0 0),(3,.ptr 1 0),(4,.ptr 2 0),(6,.ptr Q 0),(11,.d (i64 i))]) (.exit 4,[(2,.ptr 0 0),(3,.ptr 1 0),(4,.ptr 2 0),(6,.ptr Q 0)]) (λi x hx hi bs lo v es hM hes=>?_) (λbs lo v es hM W=>?_) lo hD
 . simpa using key
 . have hsx:=λh=>av (z:=2) h hx (cells:=Way.c) rfl;have hw:=ay hi hlt;have h0:((i:Int)<b.bound.l.length):=by omega
   have g0:=hM.get (x:=0) (by omega) b0;have g1:=hM.get (x:=1) (by omega) b1;have n46:=λh=>(aO (E:=E) (T:=TDd) (val:=bR) (f:=62) (by kernel_rfl)).trans (H.h112 (ni Be Bf a.bound) (tJ Gt Gu ha.2.2.2.1) x.id h);have hcv:(ni Be Bf a.bound).v=.agg [.d (.int .u64 0),.d (.int .u64 0),.d (i64 0),.d (i64 0),.d (.slice true []),.d (.slice true []),.d (a.bound.d Way.c),.d (.slice true [])]:=rfl;rw [hcv] at n46;have hid:∀ n,gp (ni Be Bf a.bound).bound.l (λp=>p.id==n)=gp a.bound.l (λp=>p.id==n):=λ_=>rfl;rw [hid] at n46;have gD:=hM.atD;have hput:put [V.d (.int .u64 0),.d (.int .i64 0)] 0 (x.c.map V.d)=some (x.c.map V.d):=rfl;have hnu:=hM.nu;obtain ⟨c1,c2⟩ | ⟨k,e,c1,c2,c3⟩:=gH a.bound.l (λp=>p.id==x.id)
   . have hq:bT Way.id Way.eqB a.bound.l x=true:=by simp [bT,c1]
     rw [c2] at n46;have hM1:=hM.lay [.cells (x.c.map .d)];obtain ⟨v',bs',G,a1,a2,a3,a4,a5⟩:=hM1.app (by decide) (by_:=16) (by decide) (by omega) (e:=x.c) rfl (r:=bs.length) (cap:=some 1) (by simp);refine ⟨_,min (G lo) Q,v',by rw [hq]; simpa using a5,λW=>?_⟩;simp +decide [nZ,g0,g1,gD,aB gD,hsx,h0,hw,hnu,n46,a1,a2,a3,a4,hput,dcV,aN,aA,aa,aM,aF,Tr.mute,aG,Tr.spares,List.range,List.range.loop,aj]
   . have hsy:=λh=>av (z:=2) h c3 (cells:=Way.c) rfl;rw [c2] at n46;have hk0:¬ ((k:Int)<0):=by omega
     cases he:Way.eqB e x with
     | true =>
      have hq:bT Way.id Way.eqB a.bound.l x=false:=by simp [bT,c1,he]
      refine ⟨bs,lo,v,by rw [hq]; exact hM,λW=>?_⟩;simp +decide [nZ,g0,g1,gD,aB gD,hsx,hsy,h0,hw,hnu,n46,hk0,he,dcV,aN,aA,aa,aM,aF,Tr.mute,aG,Tr.spares,List.range,List.range.loop,aj]
     | false =>
      have hq:bT Way.id Way.eqB a.bound.l x=true:=by simp [bT,c1,he]
      have hM1:=hM.lay [.cells (x.c.map .d)];obtain ⟨v',bs',G,a1,a2,a3,a4,a5⟩:=hM1.app (by decide) (by_:=16) (by decide) (by omega) (e:=x.c) rfl (r:=bs.length) (cap:=some 1) (by simp);refine ⟨_,min (G lo) Q,v',by rw [hq]; simpa using a5,λW=>?_⟩;simp +decide [nZ,g0,g1,gD,aB gD,hsx,hsy,h0,hw,hnu,n46,hk0,he,a1,a2,a3,a4,hput,dcV,aN,aA,aa,aM,aF,Tr.mute,aG,Tr.spares,List.range,List.range.loop,aj]
 . have g1:=hM.get (x:=1) (by omega) b1;simp [nZ,g1]
end
end
set_option maxHeartbeats 2000000
section
variable {E:Calls'}
theorem DU {T:FuncId->Option QF}{val:FuncId->Bool}{keep:List Nat}{body:QC}{α:Type}(l:List α)(q:α->Bool)(env:Nat->Bool->EA)(X:Bool->Ex×EA)(bs:List Blk)
 (hr:∀ i x,l[i]?=some x->i<l.length->∀ lo b,∀ W:EA->Hp->d9,bY keep W (Cd E T val body (bE keep (env i b)) ⟨bs,lo⟩)=W (env (i+1) (b||q x)) ⟨bs,lo⟩)
 (he:∀ lo b,∀ W:EA->Hp->d9,bY keep W (Cd E T val body (bE keep (env l.length b)) ⟨bs,lo⟩)=some ((X b).1,(X b).2,⟨bs,lo⟩)) (lo:Nat) :
 Cd E T val (.loop keep body) (env 0 false) ⟨bs,lo⟩=some ((X (l.any q)).1,(X (l.any q)).2,⟨bs,lo⟩):=by
 have:∀ (m i:Nat) (y:Bool),i+m=l.length->Cd E T val (.loop keep body) (env i y) ⟨bs,lo⟩=some ((X (y||(l.drop i).any q)).1,(X (y||(l.drop i).any q)).2,⟨bs,lo⟩):=by
  intro m;have key:=aC (E:=E) (T:=T) (val:=val) keep body;generalize Cd E T val (.loop keep body)=W at key ⊢
  induction m with
  | zero =>
   intro i y hi;rw [key,show i=l.length by omega,he lo y W,List.drop_length]; simp
  | succ m ih =>
   intro i y hi;have hlt:i<l.length:=by omega
   rw [key,hr i _ (ab hlt) hlt lo y W,ih (i+1) _ (by omega),aw hlt,List.any_cons,Bool.or_assoc]
 simpa using this l.length 0 false (by omega)
def kP (a:List Pol)(x:Pol):Bool:=!a.any λy=>y.same x
section
variable (H:DocDiffE E)
include H
theorem QD {a b:Vw}(ha:a.ok){i:Nat}{x:Pol}(hx:b.policies.l[i]?=some x){Q:Nat}{bs:List Blk}(b0:ah bs 0=some (a.c.map .d))(b1:ah bs 1=some (b.c.map .d))(lo:Nat) :
 Cd E TDd bR (.loop [2,3,4,6,13,14,15] uM) [(2,.ptr 0 0),(3,.ptr 1 0),(4,.ptr 2 0),(6,.ptr Q 0),(13,.d (i64 i)),(14,bl false),(15,.d (i64 ((0:Nat):Int)))] ⟨bs,lo⟩=some (.exit 8,[(2,.ptr 0 0),(3,.ptr 1 0),(4,.ptr 2 0),(6,.ptr Q 0),(13,.d (i64 i)),(14,bl (a.policies.l.any λy=>y.same x))],⟨bs,lo⟩):=by
 have hlt:a.policies.l.length<2 ^ 62:=ha.2.2.2.2.1.lt;refine DU (E:=E) (T:=TDd) (val:=bR) a.policies.l (λy=>y.same x) (λk y=>[(2,.ptr 0 0),(3,.ptr 1 0),(4,.ptr 2 0),(6,.ptr Q 0),(13,.d (i64 i)),(14,bl y),(15,.d (i64 k))]) (λy=>(.exit 8,[(2,.ptr 0 0),(3,.ptr 1 0),(4,.ptr 2 0),(6,.ptr Q 0),(13,.d (i64 i)),(14,bl y)])) bs (λk y hy hk lo t W=>?_) (λlo t W=>?_) lo
 . have hsx:=λh=>av (z:=5) h hx (cells:=Pol.c) rfl;have hsy:=λh=>av (z:=5) h hy (cells:=Pol.c) rfl;have hw:=ay hk hlt;have h0:((k:Int)<a.policies.l.length):=by omega
   have n29:=λh=>(aO (E:=E) (T:=TDd) (val:=bR) (f:=63) (by kernel_rfl)).trans (H.h29 y x (ha.2.2.2.2.2 y (cf hy)) h);cases t with
   | true=>simp +decide [uM,b0,b1,h0,hw,aA,aa,aM,aF,Tr.mute,aG,Tr.spares,List.range,List.range.loop,aj]
   | false=>simp +decide [uM,b0,b1,hsx,hsy,h0,hw,n29,aA,aa,aM,aF,Tr.mute,aG,Tr.spares,List.range,List.range.loop,aj]
 . simp [uM,b0]
theorem QA {a b:Vw}(ha:a.ok)(hwb:∀ p∈b.policies.l,p.wf big)(hl:b.policies.l.length<big){Q:Nat}{ep:Int}{x1 x2 x3 x4:V}{bs0:List Blk}(b0:ah bs0 0=some (a.c.map .d))(b1:ah bs0 1=some (b.c.map .d))(hQ:1<Q)(hD:ah bs0 Q=some ((λv=>dcV ep x1 x2 x3 x4 v ai ai ai ai) ai))(lo:Nat) :
 ∃ bs' lo' v',Cd E TDd bR (.loop [2,3,4,6,13] qM) [(2,.ptr 0 0),(3,.ptr 1 0),(4,.ptr 2 0),(6,.ptr Q 0),(13,.d (i64 ((0:Nat):Int)))] ⟨bs0,lo⟩=some (.exit 6,[(2,.ptr 0 0),(3,.ptr 1 0),(4,.ptr 2 0),(6,.ptr Q 0)],⟨bs',lo'⟩)/\MkF Q bs0 (λv=>dcV ep x1 x2 x3 x4 v ai ai ai ai) 5 (((b.policies.l.filter (kP a.policies.l)).map Pol.cp).map Pol.c) bs' v':=by
 have hlt:b.policies.l.length<2 ^ 62:=cg hl (by decide);refine eH (E:=E) (T:=TDd) (val:=bR) (keep:=[2,3,4,6,13]) (body:=qM) (cells:=Pol.c) b.policies.l (kP a.policies.l) Pol.cp (Q:=Q) (z:=5) (bs0:=bs0) (F:=λv=>dcV ep x1 x2 x3 x4 v ai ai ai ai) (λi=>[(2,.ptr 0 0),(3,.ptr 1 0),(4,.ptr 2 0),(6,.ptr Q 0),(13,.d (i64 i))]) (.exit 6,[(2,.ptr 0 0),(3,.ptr 1 0),(4,.ptr 2 0),(6,.ptr Q 0)]) (λi x hx hi bs lo v es hM hes=>?_) (λbs lo v es hM W=>?_) lo hD
 . have hsx:=λh=>av (z:=5) h hx (cells:=Pol.c) rfl;have hw:=ay hi hlt;have h0:((i:Int)<b.policies.l.length):=by omega
   have g0:=hM.get (x:=0) (by omega) b0;have g1:=hM.get (x:=1) (by omega) b1;have gD:=hM.atD;have hnu:=hM.nu;have n35:=λh=>(aO (E:=E) (T:=TDd) (val:=bR) (f:=64) (by kernel_rfl)).trans (H.h35 x (hwb x (cf hx)).fits h);have hput:put [V.d (.int .u64 0),.d (.str ⟨#[]⟩),.d (.int .u64 0),.d (.int .i64 0),.d (.slice true [])] 0 (x.cp.c.map V.d)=some (x.cp.c.map V.d):=rfl;have hlp:(x.cp.c.map V.d).length=5:=rfl;have q:=QD H (b:=b) ha hx (Q:=Q) g0 g1 lo;have ez:((0:Nat):Int)=0:=rfl;rw [ez] at q;cases hq:a.policies.l.any λy=>y.same x with
   | true =>
    have hf:kP a.policies.l x=false:=by simp [kP,hq]
    rw [hq] at q;refine ⟨bs,lo,v,by rw [hf]; exact hM,λW=>?_⟩;simp +decide [qM,g0,g1,h0,hw];rw [au];simp +decide [q,hw]
   | false =>
    have hf:kP a.policies.l x=true:=by simp [kP,hq]
    rw [hq] at q;have hM1:=hM.lay [.cells (x.cp.c.map .d)];obtain ⟨v',bs',G,a1,a2,a3,a4,a5⟩:=hM1.app (by decide) (by_:=64) (by decide) (by omega) (e:=x.cp.c) rfl (r:=bs.length) (cap:=some 1) (by simp);refine ⟨_,min (G lo) Q,v',by rw [hf]; simpa using a5,λW=>?_⟩;simp +decide [qM,g0,g1,h0,hw];rw [au];simp +decide [q,hw,g0,g1,gD,aB gD,hsx,hnu,n35,a1,a2,a3,a4,hput,hlp,dcV,aN,aA,aa,aM,aF,Tr.mute,aG,Tr.spares,List.range,List.range.loop,aj]
 . have g1:=hM.get (x:=1) (by omega) b1;simp [qM,g1]
theorem Mf {s0 s1 s2 s3 t0 t1 t2 t3:Sl Int}(ht:short t0)(hl:s0.l.length<big){A B G Q:Nat}{bs0:List Blk}(gA:ah bs0 A=some [.d (s0.d ak),.d (s1.d ak),.d (s2.d ak),.d (s3.d ak)])(gB:ah bs0 B=some [.d (t0.d ak),.d (t1.d ak),.d (t2.d ak),.d (t3.d ak)])(hA:A≠G)(hB:B≠G)(hD:ah bs0 G=some ((λv:V=>[v,.d (.slice true []),.d (.slice true []),.d (.slice true [])]) ai))(lo:Nat) :
 ∃ bs' lo' v',Cd E TDd bR (.loop [4,6,16,17,18,19,20] dS) [(4,.ptr 2 0),(6,.ptr Q 0),(16,.ptr A 0),(17,.ptr B 0),(18,.ptr G 0),(19,.d (.int .i64 0)),(20,.d (i64 ((0:Nat):Int)))] ⟨bs0,lo⟩=some (.exit 12,[(4,.ptr 2 0),(6,.ptr Q 0),(16,.ptr A 0),(17,.ptr B 0),(18,.ptr G 0),(19,.d (.int .i64 0))],⟨bs',lo'⟩)/\MkF G bs0 (λv:V=>[v,.d (.slice true []),.d (.slice true []),.d (.slice true [])]) 1 ((s0.l.filter λx=>!bu t0.l x).map ak) bs' v':=by
 have hlt:s0.l.length<2 ^ 62:=cg hl (by decide);have key:=eH (E:=E) (T:=TDd) (val:=bR) (keep:=[4,6,16,17,18,19,20]) (body:=dS) (cells:=ak) s0.l (λx=>!bu t0.l x) id (Q:=G) (z:=1) (bs0:=bs0) (F:=λv:V=>[v,.d (.slice true []),.d (.slice true []),.d (.slice true [])]) (λi=>[(4,.ptr 2 0),(6,.ptr Q 0),(16,.ptr A 0),(17,.ptr B 0),(18,.ptr G 0),(19,.d (.int .i64 0)),(20,.d (i64 i))]) (.exit 12,[(4,.ptr 2 0),(6,.ptr Q 0),(16,.ptr A 0),(17,.ptr B 0),(18,.ptr G 0),(19,.d (.int .i64 0))]) (λi x hx hi bs lo v es hM hes=>?_) (λbs lo v es hM W=>?_) lo hD
 . simpa using key
 . have hsx:=λh=>av (z:=1) h hx (cells:=ak) rfl;have hw:=ay hi hlt;have h0:((i:Int)<s0.l.length):=by omega
   have g0:=hM.get (x:=A) hA gA;have g1:=hM.get (x:=B) hB gB;have gD:=hM.atD;have gD':=λys=>aJ (ys:=ys) hM.atD;have hnu:=hM.nu;have hix:∀ P hp,bg (some 4) 1 (.ptr P 0) (.d (.int .i64 0)) hp=some (.ptr P 0,hp):=λP hp=>by simp +decide [bg]
   have n182:=λh=>(aO (E:=E) (T:=TDd) (val:=bR) (f:=47) (by kernel_rfl)).trans (H.h182 t0 ht x h);cases hq:bu t0.l x with
   | true =>
    refine ⟨bs,lo,v,by simpa using hM,λW=>?_⟩;simp +decide [dS,g0,g1,gD,aB gD,hix,hsx,h0,hw,hnu,n182,hq,ak,aA,aa,aM,aF,Tr.mute,aG,Tr.spares,List.range,List.range.loop,aj]
   | false =>
    have hM1:=hM.lay [.cells ((ak x).map .d)];obtain ⟨v',bs',G',a1,a2,a3,a4,a5⟩:=hM1.app (by decide) (by_:=8) (by decide) (by omega) (e:=ak x) rfl (r:=bs.length) (cap:=some 1) (by simp);refine ⟨_,min (G' lo) G,v',by simpa using a5,λW=>?_⟩;simp [ak] at a1;simp +decide [dS,g0,g1,gD,gD',aB gD,hix,hsx,h0,hw,hnu,n182,hq,a1,a2,a3,a4,ak,aN,aA,aa,aM,aF,Tr.mute,aG,Tr.spares,List.range,List.range.loop,aj]
 . have hix:∀ P hp,bg (some 4) 1 (.ptr P 0) (.d (.int .i64 0)) hp=some (.ptr P 0,hp):=λP hp=>by simp +decide [bg]
   have g0:=hM.get (x:=A) hA gA;simp [dS,g0,hix]
theorem Mg {s0 s1 s2 s3 t0 t1 t2 t3:Sl Int}(ht:short t1)(hl:s1.l.length<big){A B G Q:Nat}{n0:V}{bs0:List Blk}(gA:ah bs0 A=some [.d (s0.d ak),.d (s1.d ak),.d (s2.d ak),.d (s3.d ak)])(gB:ah bs0 B=some [.d (t0.d ak),.d (t1.d ak),.d (t2.d ak),.d (t3.d ak)])(hA:A≠G)(hB:B≠G)(hD:ah bs0 G=some ((λv:V=>[n0,v,.d (.slice true []),.d (.slice true [])]) ai))(lo:Nat) :
 ∃ bs' lo' v',Cd E TDd bR (.loop [4,6,16,17,18,19,20] dS) [(4,.ptr 2 0),(6,.ptr Q 0),(16,.ptr A 0),(17,.ptr B 0),(18,.ptr G 0),(19,.d (.int .i64 1)),(20,.d (i64 ((0:Nat):Int)))] ⟨bs0,lo⟩=some (.exit 12,[(4,.ptr 2 0),(6,.ptr Q 0),(16,.ptr A 0),(17,.ptr B 0),(18,.ptr G 0),(19,.d (.int .i64 1))],⟨bs',lo'⟩)/\MkF G bs0 (λv:V=>[n0,v,.d (.slice true []),.d (.slice true [])]) 1 ((s1.l.filter λx=>!bu t1.l x).map ak) bs' v':=by
 have hlt:s1.l.length<2 ^ 62:=cg hl (by decide);have key:=eH (E:=E) (T:=TDd) (val:=bR) (keep:=[4,6,16,17,18,19,20]) (body:=dS) (cells:=ak) s1.l (λx=>!bu t1.l x) id (Q:=G) (z:=1) (bs0:=bs0) (F:=λv:V=>[n0,v,.d (.slice true []),.d (.slice true [])]) (λi=>[(4,.ptr 2 0),(6,.ptr Q 0),(16,.ptr A 0),(17,.ptr B 0),(18,.ptr G 0),(19,.d (.int .i64 1)),(20,.d (i64 i))]) (.exit 12,[(4,.ptr 2 0),(6,.ptr Q 0),(16,.ptr A 0),(17,.ptr B 0),(18,.ptr G 0),(19,.d (.int .i64 1))]) (λi x hx hi bs lo v es hM hes=>?_) (λbs lo v es hM W=>?_) lo hD
 . simpa using key
 . have hsx:=λh=>av (z:=1) h hx (cells:=ak) rfl;have hw:=ay hi hlt;have h0:((i:Int)<s1.l.length):=by omega
   have g0:=hM.get (x:=A) hA gA;have g1:=hM.get (x:=B) hB gB;have gD:=hM.atD;have gD':=λys=>aJ (ys:=ys) hM.atD;have hnu:=hM.nu;have hix:∀ P hp,bg (some 4) 1 (.ptr P 0) (.d (.int .i64 1)) hp=some (.ptr P 1,hp):=λP hp=>by simp +decide [bg]
   have n182:=λh=>(aO (E:=E) (T:=TDd) (val:=bR) (f:=47) (by kernel_rfl)).trans (H.h182 t1 ht x h);cases hq:bu t1.l x with
   | true =>
    refine ⟨bs,lo,v,by simpa using hM,λW=>?_⟩;simp +decide [dS,g0,g1,gD,aB gD,hix,hsx,h0,hw,hnu,n182,hq,ak,aA,aa,aM,aF,Tr.mute,aG,Tr.spares,List.range,List.range.loop,aj]
   | false =>
    have hM1:=hM.lay [.cells ((ak x).map .d)];obtain ⟨v',bs',G',a1,a2,a3,a4,a5⟩:=hM1.app (by decide) (by_:=8) (by decide) (by omega) (e:=ak x) rfl (r:=bs.length) (cap:=some 1) (by simp);refine ⟨_,min (G' lo) G,v',by simpa using a5,λW=>?_⟩;simp [ak] at a1;simp +decide [dS,g0,g1,gD,gD',aB gD,hix,hsx,h0,hw,hnu,n182,hq,a1,a2,a3,a4,ak,aN,aA,aa,aM,aF,Tr.mute,aG,Tr.spares,List.range,List.range.loop,aj]
 . have hix:∀ P hp,bg (some 4) 1 (.ptr P 0) (.d (.int .i64 1)) hp=some (.ptr P 1,hp):=λP hp=>by simp +decide [bg]
   have g0:=hM.get (x:=A) hA gA;simp [dS,g0,hix]
theorem Mh {s0 s1 s2 s3 t0 t1 t2 t3:Sl Int}(ht:short t2)(hl:s2.l.length<big){A B G Q:Nat}{n0 n1:V}{bs0:List Blk}(gA:ah bs0 A=some [.d (s0.d ak),.d (s1.d ak),.d (s2.d ak),.d (s3.d ak)])(gB:ah bs0 B=some [.d (t0.d ak),.d (t1.d ak),.d (t2.d ak),.d (t3.d ak)])(hA:A≠G)(hB:B≠G)(hD:ah bs0 G=some ((λv:V=>[n0,n1,v,.d (.slice true [])]) ai))(lo:Nat) :
 ∃ bs' lo' v',Cd E TDd bR (.loop [4,6,16,17,18,19,20] dS) [(4,.ptr 2 0),(6,.ptr Q 0),(16,.ptr A 0),(17,.ptr B 0),(18,.ptr G 0),(19,.d (.int .i64 2)),(20,.d (i64 ((0:Nat):Int)))] ⟨bs0,lo⟩=some (.exit 12,[(4,.ptr 2 0),(6,.ptr Q 0),(16,.ptr A 0),(17,.ptr B 0),(18,.ptr G 0),(19,.d (.int .i64 2))],⟨bs',lo'⟩)/\MkF G bs0 (λv:V=>[n0,n1,v,.d (.slice true [])]) 1 ((s2.l.filter λx=>!bu t2.l x).map ak) bs' v':=by
 have hlt:s2.l.length<2 ^ 62:=cg hl (by decide);have key:=eH (E:=E) (T:=TDd) (val:=bR) (keep:=[4,6,16,17,18,19,20]) (body:=dS) (cells:=ak) s2.l (λx=>!bu t2.l x) id (Q:=G) (z:=1) (bs0:=bs0) (F:=λv:V=>[n0,n1,v,.d (.slice true [])]) (λi=>[(4,.ptr 2 0),(6,.ptr Q 0),(16,.ptr A 0),(17,.ptr B 0),(18,.ptr G 0),(19,.d (.int .i64 2)),(20,.d (i64 i))]) (.exit 12,[(4,.ptr 2 0),(6,.ptr Q 0),(16,.ptr A 0),(17,.ptr B 0),(18,.ptr G 0),(19,.d (.int .i64 2))]) (λi x hx hi bs lo v es hM hes=>?_) (λbs lo v es hM W=>?_) lo hD
 . simpa using key
 . have hsx:=λh=>av (z:=1) h hx (cells:=ak) rfl;have hw:=ay hi hlt;have h0:((i:Int)<s2.l.length):=by omega
   have g0:=hM.get (x:=A) hA gA;have g1:=hM.get (x:=B) hB gB;have gD:=hM.atD;have gD':=λys=>aJ (ys:=ys) hM.atD;have hnu:=hM.nu;have hix:∀ P hp,bg (some 4) 1 (.ptr P 0) (.d (.int .i64 2)) hp=some (.ptr P 2,hp):=λP hp=>by simp +decide [bg]
   have n182:=λh=>(aO (E:=E) (T:=TDd) (val:=bR) (f:=47) (by kernel_rfl)).trans (H.h182 t2 ht x h);cases hq:bu t2.l x with
   | true =>
    refine ⟨bs,lo,v,by simpa using hM,λW=>?_⟩;simp +decide [dS,g0,g1,gD,aB gD,hix,hsx,h0,hw,hnu,n182,hq,ak,aA,aa,aM,aF,Tr.mute,aG,Tr.spares,List.range,List.range.loop,aj]
   | false =>
    have hM1:=hM.lay [.cells ((ak x).map .d)];obtain ⟨v',bs',G',a1,a2,a3,a4,a5⟩:=hM1.app (by decide) (by_:=8) (by decide) (by omega) (e:=ak x) rfl (r:=bs.length) (cap:=some 1) (by simp);refine ⟨_,min (G' lo) G,v',by simpa using a5,λW=>?_⟩;simp [ak] at a1;simp +decide [dS,g0,g1,gD,gD',aB gD,hix,hsx,h0,hw,hnu,n182,hq,a1,a2,a3,a4,ak,aN,aA,aa,aM,aF,Tr.mute,aG,Tr.spares,List.range,List.range.loop,aj]
 . have hix:∀ P hp,bg (some 4) 1 (.ptr P 0) (.d (.int .i64 2)) hp=some (.ptr P 2,hp):=λP hp=>by simp +decide [bg]
   have g0:=hM.get (x:=A) hA gA;simp [dS,g0,hix]
theorem Mi {s0 s1 s2 s3 t0 t1 t2 t3:Sl Int}(ht:short t3)(hl:s3.l.length<big){A B G Q:Nat}{n0 n1 n2:V}{bs0:List Blk}(gA:ah bs0 A=some [.d (s0.d ak),.d (s1.d ak),.d (s2.d ak),.d (s3.d ak)])(gB:ah bs0 B=some [.d (t0.d ak),.d (t1.d ak),.d (t2.d ak),.d (t3.d ak)])(hA:A≠G)(hB:B≠G)(hD:ah bs0 G=some ((λv:V=>[n0,n1,n2,v]) ai))(lo:Nat) :
 ∃ bs' lo' v',Cd E TDd bR (.loop [4,6,16,17,18,19,20] dS) [(4,.ptr 2 0),(6,.ptr Q 0),(16,.ptr A 0),(17,.ptr B 0),(18,.ptr G 0),(19,.d (.int .i64 3)),(20,.d (i64 ((0:Nat):Int)))] ⟨bs0,lo⟩=some (.exit 12,[(4,.ptr 2 0),(6,.ptr Q 0),(16,.ptr A 0),(17,.ptr B 0),(18,.ptr G 0),(19,.d (.int .i64 3))],⟨bs',lo'⟩)/\MkF G bs0 (λv:V=>[n0,n1,n2,v]) 1 ((s3.l.filter λx=>!bu t3.l x).map ak) bs' v':=by
 have hlt:s3.l.length<2 ^ 62:=cg hl (by decide);have key:=eH (E:=E) (T:=TDd) (val:=bR) (keep:=[4,6,16,17,18,19,20]) (body:=dS) (cells:=ak) s3.l (λx=>!bu t3.l x) id (Q:=G) (z:=1) (bs0:=bs0) (F:=λv:V=>[n0,n1,n2,v]) (λi=>[(4,.ptr 2 0),(6,.ptr Q 0),(16,.ptr A 0),(17,.ptr B 0),(18,.ptr G 0),(19,.d (.int .i64 3)),(20,.d (i64 i))]) (.exit 12,[(4,.ptr 2 0),(6,.ptr Q 0),(16,.ptr A 0),(17,.ptr B 0),(18,.ptr G 0),(19,.d (.int .i64 3))]) (λi x hx hi bs lo v es hM hes=>?_) (λbs lo v es hM W=>?_) lo hD
 . simpa using key
 . have hsx:=λh=>av (z:=1) h hx (cells:=ak) rfl;have hw:=ay hi hlt;have h0:((i:Int)<s3.l.length):=by omega
   have g0:=hM.get (x:=A) hA gA;have g1:=hM.get (x:=B) hB gB;have gD:=hM.atD;have gD':=λys=>aJ (ys:=ys) hM.atD;have hnu:=hM.nu;have hix:∀ P hp,bg (some 4) 1 (.ptr P 0) (.d (.int .i64 3)) hp=some (.ptr P 3,hp):=λP hp=>by simp +decide [bg]
   have n182:=λh=>(aO (E:=E) (T:=TDd) (val:=bR) (f:=47) (by kernel_rfl)).trans (H.h182 t3 ht x h);cases hq:bu t3.l x with
   | true =>
    refine ⟨bs,lo,v,by simpa using hM,λW=>?_⟩;simp +decide [dS,g0,g1,gD,aB gD,hix,hsx,h0,hw,hnu,n182,hq,ak,aA,aa,aM,aF,Tr.mute,aG,Tr.spares,List.range,List.range.loop,aj]
   | false =>
    have hM1:=hM.lay [.cells ((ak x).map .d)];obtain ⟨v',bs',G',a1,a2,a3,a4,a5⟩:=hM1.app (by decide) (by_:=8) (by decide) (by omega) (e:=ak x) rfl (r:=bs.length) (cap:=some 1) (by simp);refine ⟨_,min (G' lo) G,v',by simpa using a5,λW=>?_⟩;simp [ak] at a1;simp +decide [dS,g0,g1,gD,gD',aB gD,hix,hsx,h0,hw,hnu,n182,hq,a1,a2,a3,a4,ak,aN,aA,aa,aM,aF,Tr.mute,aG,Tr.spares,List.range,List.range.loop,aj]
 . have hix:∀ P hp,bg (some 4) 1 (.ptr P 0) (.d (.int .i64 3)) hp=some (.ptr P 3,hp):=λP hp=>by simp +decide [bg]
   have g0:=hM.get (x:=A) hA gA;simp [dS,g0,hix]
end
end
