/- feed.Subscribe, Acked, Tick, Same; FeedAside. -/
import Derived.Test.YtjeflmaikicdnaaGreatJc
import Derived.KernelRfl
set_option maxHeartbeats 2000000
set_option maxRecDepth 100000
set_option linter.unusedVariables false
set_option linter.unusedSimpArgs false
namespace Go.Proofs.YtjeflmaikicdnaaGreat
open IntKind (wrap)
section
theorem qf (x:Int):wrap .u64 x=x % 18446744073709551616:=by simp [wrap,IntKind.bits,IntKind.signed]
@[simp] theorem Sbs.s0_1 {x:Sbs}:sub x.c 0 1=some [u64 x.inc]:=(rfl)
@[simp] theorem Sbs.s1_1 {x:Sbs}:sub x.c 1 1=some [u64 x.seq]:=(rfl)
@[simp] theorem Sbs.s2_1 {x:Sbs}:sub x.c 2 1=some [x.addrs.d bn]:=(rfl)
@[simp] theorem Ack.s0_1 {x:Ack}:sub x.c 0 1=some [u64 x.life]:=(rfl)
@[simp] theorem Ack.s1_1 {x:Ack}:sub x.c 1 1=some [u64 x.inc]:=(rfl)
@[simp] theorem Ack.s2_1 {x:Ack}:sub x.c 2 1=some [u64 x.seq]:=(rfl)
@[simp] theorem Ack.s3_1 {x:Ack}:sub x.c 3 1=some [i64 x.ok]:=(rfl)
@[simp] theorem Fd.own_node {x:Fd}:x.own.node=x.node:=(rfl)
@[simp] theorem Fd.own_life {x:Fd}:x.own.life=x.life:=(rfl)
@[simp] theorem Fd.own_inc {x:Fd}:x.own.inc=x.inc:=(rfl)
@[simp] theorem Fd.own_asked {x:Fd}:x.own.asked=x.asked:=(rfl)
@[simp] theorem Fd.own_seq {x:Fd}:x.own.seq=x.seq:=(rfl)
@[simp] theorem Fd.own_out {x:Fd}:x.own.out=x.out:=(rfl)
@[simp] theorem Fd.own_since {x:Fd}:x.own.since=x.since:=(rfl)
@[simp] theorem Fd.own_upon {x:Fd}:x.own.upon=x.upon:=(rfl)
@[simp] theorem Fd.own_epochs {x:Fd}:x.own.epochs=x.epochs:=(rfl)
@[simp] theorem Fd.own_addrs {x:Fd}:x.own.addrs=x.addrs:=(rfl)
def lX (s:Sbs):Bool:=gu s.inc&&(gu s.seq&&bW ⟨2,s.addrs⟩)
def tN (f:Fd)(s:Sbs):Fd:={ f.own with inc:=s.inc,seq:=0,upon:=0,out:=0,epochs:=0,sent:=vw0,base:=vw0 }
def gZ (f:Fd)(s:Sbs):Fd:={ f with asked:=s.seq,addrs:=s.addrs }
def Subs (c:Cfg)(now:Int)(f:Fd)(s:Sbs)(f':Fd)(l:List Psh):Prop :=
 ((lX s=false\/(¬ s.inc>f.inc/\¬ (s.inc=f.inc/\s.seq>f.asked)))/\f'=f.own/\l=[]) ∨
 (lX s=true/\s.inc>f.inc/\GoOn c now (gZ (tN f s) s) f' l) ∨
 (lX s=true/\s.inc=f.inc/\s.seq>f.asked/\GoOn c now (gZ f.own s) f' l)
def wE (f:Fd):Fd:={ f.own with out:=0,upon:=f.seq,base:=f.own.sent.own,epochs:=if f.own.sent.epoch>f.own.epochs then f.own.sent.epoch else f.own.epochs }
def Ba (f:Fd):Fd:={ f.own with out:=0,upon:=0,base:=vw0 }
def Ackd (c:Cfg)(now:Int)(f:Fd)(a:Ack)(f':Fd)(l:List Psh):Prop :=
 ((¬ (a.life=f.life/\a.inc=f.inc/\a.seq=f.seq/\f.out=1)\/(a.ok≠1/\a.ok≠0))/\f'=f.own/\l=[]) ∨
 (a.life=f.life/\a.inc=f.inc/\a.seq=f.seq/\f.out=1/\a.ok=1/\GoOn c now (wE f) f' l) ∨
 (a.life=f.life/\a.inc=f.inc/\a.seq=f.seq/\f.out=1/\a.ok=0/\GoOn c now (Ba f) f' l)
def xn (w:Fd):List Psh:=if (aY w.base&&aY w.sent)=true then [dH w (bC w.base w.sent)] else []
def qo (f:Fd)(now:Int):Bool:=!(f.out==1)||(decide (now<f.since)||decide (wrap .u64 (now-f.since)<3))
def fF (f:Fd)(now:Int):Fd:={ f.own with since:=now }
def Tckd (now:Int)(f f':Fd)(l:List Psh):Prop:=(qo f now=true/\f'=f.own/\l=[])\/(qo f now=false/\f'=fF f now/\l=xn f')
section
variable {E:Calls'}(H:FeedH E)
theorem QX (n:Int)(h:Hp):Sm E TF bV 19 [.d (u64 n)] h=some (bl (gu n),h):=by
 rw [aN XZ X5];by_cases c1:n>=1
 . by_cases c2:n<=4611686018427387903
   . simp +decide [aa,Ik,c1,c2,gu]
   . simp +decide [aa,Ik,c1,c2,gu]
 . simp +decide [aa,Ik,c1,gu]
include H in
theorem F74 (s:Sbs)(hs:short s.addrs)(h:Hp):Sm E TF bV 11 [ag s.c] h=some (bl (lX s),h):=by
 have n1:=λh=>QX (E:=E) s.inc h;have n2:=λh=>QX (E:=E) s.seq h;have n3:∀ h,Sm E TF bV 30 [.agg [.d (i64 2),.d (s.addrs.d bn)]] h=some (bl (bW ⟨2,s.addrs⟩),h):=λh=>by rw [aG bu5]; exact H.h54 ⟨2,s.addrs⟩ hs h
 unfold lX;rw [aN bu6 bu7];generalize gu s.inc=A at *;generalize gu s.seq=B at *;generalize bW ⟨2,s.addrs⟩=C at *;cases A
 . simp +decide [aa,r74,n1,ai]
 . cases B
   . simp +decide [aa,r74,n1,n2,ai]
   . simp +decide [aa,r74,n1,n2,n3,az,ai]
theorem d10 (a0 a1 a2 a3 a4 a5 a6 a7 a8 a9:Blk)(p:Psh)(lo:Nat):dataV ⟨[a0,a1,a2,a3,a4,a5,a6,a7,a8,a9,.cells (p.c.map .d)],lo⟩ 8 (.row 10 0 1 (some 1) 14)=some (fG [p]) :=
 bB (h:=⟨[a0,a1,a2,a3,a4,a5,a6,a7,a8,a9,.cells (p.c.map .d)],lo⟩) (k:=7) (b:=10) (n:=1) (cap:=some 1) (z:=14) (es:=[p.c]) (rest:=[]) (by simp []) rfl rfl
include H in
theorem F73 (f:Fd)(hf:FdOk f)(c:Cfg)(hc:CfgOk c)(now:Int)(s:Sbs)(hs:short s.addrs):∃ f' l,Subs c now f s f' l/\FdOk f'/\∀ h,Sm E TF bV 12 [f.v,c.v,.d (u64 now),ag s.c] h=some (.tup [f'.v,.d (fG l)],h):=by
 have n1:=λa0 a1 a2 a3 lo=>Jj H f hf now a0 a1 a2 a3 lo;have n2:=λh=>F74 H s hs h;have n3:=λh=>ek (E:=E) (T:=TF) (val:=bV) (cells:=bn) Fq Fu (by decide) (by decide) (λ_=>rfl) hs h;have y22:=z22;have hfo:=Fd.own_ok hf;have skip:∀ hskip:(lX s=false\/(¬ s.inc>f.inc/\¬ (s.inc=f.inc/\s.seq>f.asked))),(∀ h,Sm E TF bV 12 [f.v,c.v,.d (u64 now),ag s.c] h=some (.tup [f.own.v,.d (.slice true [])],h)) →
  ∃ f' l,Subs c now f s f' l/\FdOk f'/\∀ h,Sm E TF bV 12 [f.v,c.v,.d (u64 now),ag s.c] h=some (.tup [f'.v,.d (fG l)],h):=λhskip k=>⟨f.own,[],.inl ⟨hskip,rfl,rfl⟩,hfo,k⟩
 cases hm:lX s with
 | false =>
  rw [hm] at n2;refine skip (.inl hm) λh=>?_;rw [aN Du Dv];simp +decide [aa,r73,n1,n2,y22]
 | true =>
  rw [hm] at n2;by_cases c1:s.inc>f.inc
  . obtain ⟨f',l,hg,hf',hr⟩:=MI H (gZ (tN f s) s) ⟨hs,jL,(λp hp=>by cases hp),jL,λp hp=>by cases hp⟩ c hc now;refine ⟨f',l,.inr (.inl ⟨hm,c1,hg⟩),hf',λh=>?_⟩;have e1:({ f with inc:=s.inc,seq:=0,upon:=0,out:=0,epochs:=0,sent:=vw0,base:=vw0,asked:=s.seq,addrs:=s.addrs }:Fd)=gZ (tN f s) s:=rfl;have q7:∀ x:Fd,put (Fw x now) 7 [V.d (.int .u64 0),.d (.slice true []),.d (.slice true []),.d (.slice true []),.d (.slice true []),.d (.slice true [])]=some (Fw { x with sent:=vw0 } now):=λ_=>rfl;have q14:∀ x:Fd,put (Fw x now) 14 [V.d (.int .u64 0),.d (.slice true []),.d (.slice true []),.d (.slice true []),.d (.slice true []),.d (.slice true [])]=some (Fw { x with base:=vw0 } now):=λ_=>rfl;obtain ⟨rfl,rfl,hr⟩ | ⟨p,rfl,hr⟩:=hr
    . rw [aN Du Dv];simp +decide [aa,r73,n1,n2,n3,y22,q7,q14,c1,e1,hr,az,aA,ae];rfl
    . obtain ⟨b6,b7,b8,b9,hr⟩:=hr (.cells (f.c.map .d)) (.cells (c.c.map .d)) (.cells (s.c.map .d)) (.cells fdZ) (.cells (f.own.c.map .d)) 0;simp only [fdZ] at hr;rw [aN Du Dv];simp +decide [aa,r73,n1,n2,n3,y22,q7,q14,c1,e1,hr,az,aA,ae,d10]
  . by_cases c2:s.inc=f.inc
    . by_cases c3:s.seq>f.asked
      . obtain ⟨f',l,hg,hf',hr⟩:=MI H (gZ f.own s) ⟨hs,hfo.sent,hfo.sentw,hfo.base,hfo.basew⟩ c hc now;refine ⟨f',l,.inr (.inr ⟨hm,c2,c3,hg⟩),hf',λh=>?_⟩;have e1:({ f with asked:=s.seq,addrs:=s.addrs,sent:=f.own.sent,base:=f.own.base }:Fd)=gZ f.own s:=rfl;obtain ⟨rfl,rfl,hr⟩ | ⟨p,rfl,hr⟩:=hr
        . rw [aN Du Dv];simp +decide [aa,r73,n1,n2,n3,y22,c2,c3,e1,hr,aA,ae];rfl
        . obtain ⟨b6,b7,b8,b9,hr⟩:=hr (.cells (f.c.map .d)) (.cells (c.c.map .d)) (.cells (s.c.map .d)) (.cells fdZ) (.cells (f.own.c.map .d)) 0;simp only [fdZ] at hr;rw [aN Du Dv];simp +decide [aa,r73,n1,n2,n3,y22,c2,c3,e1,hr,aA,ae,d10]
      . refine skip (.inr ⟨c1,λhh=>c3 hh.2⟩) λh=>?_;rw [aN Du Dv];simp +decide [aa,r73,n1,n2,y22,c2,c3,ai]
    . refine skip (.inr ⟨c1,λhh=>c2 hh.1⟩) λh=>?_;rw [aN Du Dv];simp +decide [aa,r73,n1,n2,y22,c1,c2,ai]
include H in
theorem F76 (f:Fd)(hf:FdOk f)(c:Cfg)(hc:CfgOk c)(now:Int)(a:Ack):∃ f' l,Ackd c now f a f' l/\FdOk f'/\∀ h,Sm E TF bV 15 [f.v,c.v,.d (u64 now),ag a.c] h=some (.tup [f'.v,.d (fG l)],h):=by
 have n1:=λa0 a1 a2 a3 lo=>Jj H f hf now a0 a1 a2 a3 lo;have n3:∀ h,Sm E TF bV 33 [f.own.sent.v] h=some (f.own.sent.own.v,h):=λh=>by rw [aG Dt]; exact H.h66 _ (Fd.own_ok hf).sent h
 have y22:=z22;have hfo:=Fd.own_ok hf;have skip:∀ hskip:(¬ (a.life=f.life/\a.inc=f.inc/\a.seq=f.seq/\f.out=1)\/(a.ok≠1/\a.ok≠0)),(∀ h,Sm E TF bV 15 [f.v,c.v,.d (u64 now),ag a.c] h=some (.tup [f.own.v,.d (.slice true [])],h)) →
  ∃ f' l,Ackd c now f a f' l/\FdOk f'/\∀ h,Sm E TF bV 15 [f.v,c.v,.d (u64 now),ag a.c] h=some (.tup [f'.v,.d (fG l)],h):=λhskip k=>⟨f.own,[],.inl ⟨hskip,rfl,rfl⟩,hfo,k⟩
 by_cases c1:a.life=f.life
 case neg =>
  refine skip (.inl λhh=>c1 hh.1) λh=>?_;rw [aN zD zF];simp +decide [aa,r76,n1,y22,c1,ai]
 by_cases c2:a.inc=f.inc
 case neg =>
  refine skip (.inl λhh=>c2 hh.2.1) λh=>?_;rw [aN zD zF];simp +decide [aa,r76,n1,y22,c1,c2,ai]
 by_cases c3:a.seq=f.seq
 case neg =>
  refine skip (.inl λhh=>c3 hh.2.2.1) λh=>?_;rw [aN zD zF];simp +decide [aa,r76,n1,y22,c1,c2,c3,ai]
 by_cases c4:f.out=1
 case neg =>
  refine skip (.inl λhh=>c4 hh.2.2.2) λh=>?_;rw [aN zD zF];simp +decide [aa,r76,n1,y22,c1,c2,c3,c4,ai]
 by_cases c5:a.ok=1
 . have hso:=Vw.own_ok hfo.sent hfo.sentw;obtain ⟨f',l,hg,hf',hr⟩:=MI H (wE f) ⟨hfo.addrs,hfo.sent,hfo.sentw,hso.1,hso.2⟩ c hc now;refine ⟨f',l,.inr (.inl ⟨c1,c2,c3,c4,c5,hg⟩),hf',λh=>?_⟩;have e1:({ f with out:=0,upon:=f.seq,sent:=f.own.sent,base:=f.own.sent.own,epochs:=if f.epochs<f.own.sent.epoch then f.own.sent.epoch else f.epochs }:Fd)=wE f:=rfl;have hmx:∀ (ev:X->V) (h:Hp) (x y:Int),ev (.t 81)=.d (u64 x)->ev (.t 87)=.d (u64 y)->dz (Sm E TF bV) (.minmax true [.t 81,.t 87]) ev h=some (.d (u64 (if x<y then y else x)),h,⟨false,false,[],[],h.bs.length,h.bs.length,0⟩):=λev h x y hx hy=>by
    have hk:okV (.d (u64 x))=true/\okV (.d (u64 y))=true:=⟨rfl,rfl⟩;simp only [dz,opE,List.all_cons,List.all_nil,hx,hy,hk.1,hk.2,Bool.and_self,if_true,cq,List.map_nil,gJ];by_cases hxy:y>x
    . have hxy':x<y:=hxy;simp [hxy',wT,q8]
    . have hxy':¬ x<y:=hxy;simp [hxy',wT,q8]
   obtain ⟨rfl,rfl,hr⟩ | ⟨p,rfl,hr⟩:=hr
   . rw [aN zD zF];simp +decide [aa,r76,n1,n3,y22,c1,c2,c3,c4,c5,e1,hmx,hr,aA,ae,ai];rfl
   . obtain ⟨b6,b7,b8,b9,hr⟩:=hr (.cells (f.c.map .d)) (.cells (c.c.map .d)) (.cells (a.c.map .d)) (.cells fdZ) (.cells (f.own.c.map .d)) 0;simp only [fdZ] at hr;rw [aN zD zF];simp +decide [aa,r76,n1,n3,y22,c1,c2,c3,c4,c5,e1,hmx,hr,aA,ae,d10,ai]
 . by_cases c6:a.ok=0
   . obtain ⟨f',l,hg,hf',hr⟩:=MI H (Ba f) ⟨hfo.addrs,hfo.sent,hfo.sentw,jL,λp hp=>by cases hp⟩ c hc now;refine ⟨f',l,.inr (.inr ⟨c1,c2,c3,c4,c6,hg⟩),hf',λh=>?_⟩;have e1:({ f with out:=0,upon:=0,sent:=f.own.sent,base:=vw0 }:Fd)=Ba f:=rfl;have q14:∀ x:Fd,put (Fw x now) 14 [V.d (.int .u64 0),.d (.slice true []),.d (.slice true []),.d (.slice true []),.d (.slice true []),.d (.slice true [])]=some (Fw { x with base:=vw0 } now):=λ_=>rfl;obtain ⟨rfl,rfl,hr⟩ | ⟨p,rfl,hr⟩:=hr
     . rw [aN zD zF];simp +decide [aa,r76,n1,y22,q14,c1,c2,c3,c4,c6,e1,hr,az,ai];rfl
     . obtain ⟨b6,b7,b8,b9,hr⟩:=hr (.cells (f.c.map .d)) (.cells (c.c.map .d)) (.cells (a.c.map .d)) (.cells fdZ) (.cells (f.own.c.map .d)) 0;simp only [fdZ] at hr;rw [aN zD zF];simp +decide [aa,r76,n1,y22,q14,c1,c2,c3,c4,c6,e1,hr,az,d10,ai]
   . refine skip (.inr ⟨c5,c6⟩) λh=>?_;rw [aN zD zF];simp +decide [aa,r76,n1,y22,c1,c2,c3,c4,c5,c6,ai]
theorem d5 (a0 a1 a2 a3 a4:Blk)(p:Psh)(lo:Nat):dataV ⟨[a0,a1,a2,a3,a4,.cells (p.c.map .d)],lo⟩ 8 (.row 5 0 1 (some 1) 14)=some (fG [p]) :=
 bB (h:=⟨[a0,a1,a2,a3,a4,.cells (p.c.map .d)],lo⟩) (k:=7) (b:=5) (n:=1) (cap:=some 1) (z:=14) (es:=[p.c]) (rest:=[]) (by simp []) rfl rfl
include H in
theorem F77 (f:Fd)(hf:FdOk f)(now:Int):∃ f' l,Tckd now f f' l/\FdOk f'/\∀ h,Sm E TF bV 17 [f.v,.d (u64 now)] h=some (.tup [f'.v,.d (fG l)],h):=by
 have n1:=λa0 a1 lo=>Rs H f hf now a0 a1 lo;have y22:=z22;have hfo:=Fd.own_ok hf;have skip:∀ hi:qo f now=true,(∀ h,Sm E TF bV 17 [f.v,.d (u64 now)] h=some (.tup [f.own.v,.d (.slice true [])],h))->∃ f' l,Tckd now f f' l/\FdOk f'/\∀ h,Sm E TF bV 17 [f.v,.d (u64 now)] h=some (.tup [f'.v,.d (fG l)],h) :=
  λhi k=>⟨f.own,[],.inl ⟨hi,rfl,rfl⟩,hfo,k⟩
 by_cases c1:f.out=1
 case neg =>
  refine skip (by simp [qo,c1]) λh=>?_;rw [aN J9 Kb];simp +decide [aa,r77,n1,y22,c1,ai]
 by_cases c2:now<f.since
 case pos =>
  refine skip (by simp [qo,c1,c2]) λh=>?_;rw [aN J9 Kb];simp +decide [aa,r77,n1,y22,c1,c2,ai]
 by_cases c3:wrap .u64 (now-f.since)<3
 case pos =>
  refine skip (by simp [qo,c1,c2,c3]) λh=>?_;rw [aN J9 Kb];simp +decide [aa,r77,n1,y22,c1,c2,c3,ai]
 have e1:({ f with since:=now,sent:=f.own.sent,base:=f.own.base,out:=1 }:Fd)=fF f now:=by unfold fF; rw [← c1]; rfl
 have hok:FdOk (fF f now):=⟨hfo.addrs,hfo.sent,hfo.sentw,hfo.base,hfo.basew⟩;refine ⟨fF f now,xn (fF f now),.inr ⟨by simp [qo,c1,c2,c3],rfl,rfl⟩,hok,λh=>?_⟩;cases hm:(aY (fF f now).base&&aY (fF f now).sent) with
 | false =>
  have n2:=λ(a0 a1 a2:Blk) lo=>W9 H (fF f now) hok now hm a0 a1 a2 lo;have:xn (fF f now)=[]:=by rw [xn,hm]; rfl
  rw [this,aN J9 Kb];simp +decide [aa,r77,n1,n2,e1,y22,c1,c2,c3,ai];rfl
 | true =>
  have hm':=hm;simp only [aw] at hm';have n2:=λ(a0 a1 a2:Blk) lo=>Q0 H (fF f now) hok now hm'.1 hm'.2 a0 a1 a2 lo;have:xn (fF f now)=[dH (fF f now) (bC (fF f now).base (fF f now).sent)]:=by rw [xn,hm]; rfl
  rw [this,aN J9 Kb];simp +decide [aa,r77,n1,n2,e1,y22,c1,c2,c3,ai,d5]
end
theorem GoOn.inc {c:Cfg}{now:Int}{w w':Fd}{l:List Psh}(h:GoOn c now w w' l):w'.inc=w.inc/\w'.asked=w.asked/\w'.life=w.life:=by
 obtain ⟨v,e,_,⟨_,rfl,_⟩ | ⟨_,rfl,_⟩⟩:=h<;>exact ⟨rfl,rfl,rfl⟩
theorem GoOn.seq {c:Cfg}{now:Int}{w w':Fd}{l:List Psh}(h:GoOn c now w w' l)(ho:w.out=0):w'.out=0\/w'.seq≠w.seq:=by
 obtain ⟨v,e,_,⟨_,rfl,_⟩ | ⟨_,rfl,_⟩⟩:=h
 . exact .inl ho
 . right;show wrap .u64 (w.seq+1)≠w.seq;rw [qf]; omega
theorem Subs.again {c:Cfg}{now:Int}{f f' f'':Fd}{s:Sbs}{l l':List Psh}(h:Subs c now f s f' l)(k:Subs c now f' s f'' l')(hm:lX s=true):f''=f'.own/\l'=[]:=by
 have key:¬ s.inc>f'.inc/\¬ (s.inc=f'.inc/\s.seq>f'.asked):=by
  obtain ⟨h1 | h1,rfl,_⟩ | ⟨_,h1,hg⟩ | ⟨_,h1,h2,hg⟩:=h
  . rw [hm] at h1; cases h1
  . exact h1
  . obtain ⟨a1,a2,_⟩:=hg.inc;have b1:(gZ (tN f s) s).inc=s.inc:=rfl;have b2:(gZ (tN f s) s).asked=s.seq:=rfl;omega
  . obtain ⟨a1,a2,_⟩:=hg.inc;have b1:(gZ f.own s).inc=f.inc:=rfl;have b2:(gZ f.own s).asked=s.seq:=rfl;omega
 obtain ⟨_,rfl,rfl⟩ | ⟨_,h1,_⟩ | ⟨_,h1,h2,_⟩:=k
 . exact ⟨rfl,rfl⟩
 . exact absurd h1 key.1
 . exact absurd ⟨h1,h2⟩ key.2
theorem Ackd.again {c:Cfg}{now:Int}{f f' f'':Fd}{a:Ack}{l l':List Psh}(h:Ackd c now f a f' l)(k:Ackd c now f' a f'' l'):f''=f'.own/\l'=[]:=by
 have key:¬ (a.life=f'.life/\a.inc=f'.inc/\a.seq=f'.seq/\f'.out=1)\/(a.ok≠1/\a.ok≠0):=by
  obtain ⟨h1,rfl,_⟩ | ⟨h1,h2,h3,h4,h5,hg⟩ | ⟨h1,h2,h3,h4,h5,hg⟩:=h
  . exact h1
  . left;obtain q | q:=hg.seq rfl
    . rintro ⟨_,_,_,h9⟩; omega
    . rintro ⟨_,_,h9,_⟩;have:(wE f).seq=f.seq:=rfl;exact q (by rw [this,← h9,h3])
  . left;obtain q | q:=hg.seq rfl
    . rintro ⟨_,_,_,h9⟩; omega
    . rintro ⟨_,_,h9,_⟩;have:(Ba f).seq=f.seq:=rfl;exact q (by rw [this,← h9,h3])
 obtain ⟨_,rfl,rfl⟩ | ⟨h1,h2,h3,h4,h5,_⟩ | ⟨h1,h2,h3,h4,h5,_⟩:=k
 . exact ⟨rfl,rfl⟩
 . obtain q | q:=key
   . exact absurd ⟨h1,h2,h3,h4⟩ q
   . exact absurd h5 q.1
 . obtain q | q:=key
   . exact absurd ⟨h1,h2,h3,h4⟩ q
   . exact absurd h5 q.2
theorem Tckd.again {now:Int}{f f' f'':Fd}{l l':List Psh}(h:Tckd now f f' l)(k:Tckd now f' f'' l'):f''=f'.own/\l'=[]:=by
 have key:qo f' now=true:=by
  obtain ⟨h1,rfl,_⟩ | ⟨h1,rfl,_⟩:=h
  . exact h1
  . have e:wrap .u64 (now-now)=0:=by rw [Int.sub_self]; decide
    have e0:wrap .u64 0=0:=by decide
    simp [qo,fF,e0]
 obtain ⟨_,rfl,rfl⟩ | ⟨h1,_⟩:=k
 . exact ⟨rfl,rfl⟩
 . rw [key] at h1; cases h1
end
section
theorem Vw.own_nf (v:Vw):v.own.nf=v.nf:=by
 simp [Vw.own,Vw.nf,Sl.nf,Function.comp_def,Pol.own_nf]
theorem OfR.yes {c:Cfg}{s:Scp}{v:Vw}{e:Int}(h:OfR c s v e)(hm:bK c=true)(hs:bW s=true):e=0/\∃ nl,v=ofT c s ⟨nl,eU c s⟩:=by
 obtain ⟨rfl,_,_,nl,_,rfl⟩ | ⟨_,_,hn⟩:=h
 . exact ⟨rfl,nl,rfl⟩
 . rw [hm,hs] at hn; cases hn
theorem OfR.one {c:Cfg}{s:Scp}{v w:Vw}{e k:Int}(h:OfR c s v e)(g:OfR c s w k)(hm:bK c=true)(hs:bW s=true):v.nf=w.nf:=by
 obtain ⟨_,a,rfl⟩:=h.yes hm hs;obtain ⟨_,b,rfl⟩:=g.yes hm hs;simp [ofT,Vw.nf,Sl.nf]
end
section
def r98:QF:=(⟨_,by cbv⟩:F0 0x4141042140101114143c13c4113213c011903c3312215011901931806d1511901231706d1516901331606d111211c2315c611a01a01a01306784519ab20c1c2c306784519ab20c1c306784519ab20c306784519aa306784519930678451830674306330241000003c3c8104141042140101114143c13c4113211300191616c012211108225c69033333161c7261815081102cd213204d2c0411a111c4314c612dd2a2104141042140101114143c13c41132113150871151c16771126712357106d47a037112271c3317101105c111211931106d1a012c2114c690033333162c122131011c06111211c331321114c69033333161c6216111331106d1a0162104141042140101114143c13c4113213c011903c33122113401871151c06741126412354106d44a034112241c231410111211931106d1a011c21104143004212113150871151c5771126712357106d47a037112271c2317101151c16111211031106d1a0111211c1314c21113c490011141c521123115103011142c111211c23111218131112120392921300120c1221401346d).1
end
section
structure Nde where
 inc:Int
 asked:Int
 seq:Int
 v:Vw
 whole:Bool
def Nde.c (n:Nde):List D:=u64 n.inc::u64 n.asked::u64 n.seq::(n.v.c++[.bool n.whole])
def aj6:List (Nat×QF):=[(13,r98)]
def TN8:FuncId->Option QF:=iW aj6
def je (f:FuncId):Bool:=false
theorem SV:TN8 13=some r98:=by kernel_rfl
theorem YA:TN8 32=none:=by kernel_rfl
theorem dY (n:Nde):sub n.c 0 1=some [u64 n.inc]:=(rfl)
theorem pq (n:Nde):sub n.c 2 1=some [u64 n.seq]:=(rfl)
theorem KD (n:Nde):sub n.c 3 6=some n.v.c:=(rfl)
theorem mr (n:Nde):sub n.c 9 1=some [.bool n.whole]:=(rfl)
theorem KA (n:Nde)(x:Vw):put (n.c.map V.d) 3 (x.c.map .d)=some (Nde.c { n with v:=x } |>.map .d):=(rfl)
theorem Ky (n:Nde)(k:Int):put (n.c.map V.d) 2 [.d (u64 k)]=some (Nde.c { n with seq:=k } |>.map .d):=(rfl)
theorem KC (n:Nde)(b:Bool):put (n.c.map V.d) 9 [.d (.bool b)]=some (Nde.c { n with whole:=b } |>.map .d):=(rfl)
theorem nD (p:Psh):sub p.c 0 1=some [u64 p.life]:=(rfl)
theorem qK (p:Psh):sub p.c 1 1=some [u64 p.inc]:=(rfl)
theorem qL (p:Psh):sub p.c 2 1=some [u64 p.seq]:=(rfl)
theorem vE (p:Psh):sub p.c 3 1=some [u64 p.upon]:=(rfl)
theorem KY (p:Psh):sub p.c 4 10=some p.delta.c:=(rfl)
theorem Ak (x:Vw):sub x.c 0 6=some x.c:=(rfl)
theorem VT (x y:Vw):put (x.c.map V.d) 0 (y.c.map V.d)=some (y.c.map .d):=(rfl)
theorem qZ (x:Vw):x.c.length=6:=rfl
theorem RS (x:Dlt):x.c.length=10:=rfl
theorem pE (x:Psh):x.c.length=14:=rfl
section
variable {E:Calls'}
theorem S98 {bs:List Blk}{nb:Nat}{n:Nde}(hb:au bs nb=some (n.c.map .d)){p:Psh}{x base:Vw}(hi:p.inc=n.inc)(hs:¬ p.seq<n.seq)
 (hc:(n.whole=false/\p.upon=0/\base=vw0)\/(n.whole=true/\p.seq≠n.seq/\p.upon≠0/\p.upon=n.seq/\base=n.v))
 (k33:∀ h,E 32 [base.v,ag p.delta.c] h=some (.tup [x.v,.d (i64 0)],h)) :
 ∃ b1 b2 b3 b4,∃ F:Nat->Nat,∀ lo,Sm E TN8 je 13 [.ptr nb 0,ag p.c] ⟨bs,lo⟩=some (.row (bs.length+4) 0 1 (some 1) 4,⟨bs.set nb (.cells (Nde.c ⟨n.inc,n.asked,p.seq,x,true⟩ |>.map .d))++[b1,b2,b3,b4,.cells ((Ack.c ⟨p.life,p.inc,p.seq,1⟩).map .d)],F lo⟩):=by
 have hnl:=aK hb;have n33:∀ h,Sm E TN8 je 32 [base.v,ag p.delta.c] h=some (.tup [x.v,.d (i64 0)],h):=λh=>(aG YA).trans (k33 h);have g:=λys=>ak (ys:=ys) hb;have gs:∀ ys X,au (bs.set nb (.cells X)++ys) nb=some X:=λys X=>ak (mi hb);have gn:∀ X a b ys,au (bs.set nb (.cells X)++a::.cells b::ys) (bs.length+1)=some b:=λX a b ys=>by
  unfold au;rw [bm (by simp)];simp
 have hn0:¬ bs.length=nb:=by omega
 have hn3:¬ bs.length+3=nb:=by omega
 have ack:∀ k:Int,(Ack.c ⟨p.life,n.inc,p.seq,k⟩).map V.d=[.d (u64 p.life),.d (u64 n.inc),.d (u64 p.seq),.d (i64 k)]:=λ_=>rfl;have hB:(Bd E TN8 je r98 [.ptr nb 0,ag p.c] ⟨bs,bs.length⟩).map (λo=>(o.1,o.2.bs))=some (.row (bs.length+4) 0 1 (some 1) 4,bs.set nb (.cells (Nde.c ⟨n.inc,n.asked,p.seq,x,true⟩ |>.map .d))++[.cells (p.c.map .d),.cells ((Ack.c ⟨p.life,p.inc,p.seq,1⟩).map .d),.cells (base.c.map .d),.cells (x.c.map .d),.cells ((Ack.c ⟨p.life,p.inc,p.seq,1⟩).map .d)]):=by
  obtain ⟨h1,h2,rfl⟩ | ⟨h1,h2,h3,h4,rfl⟩:=hc
  . have e0:vw0.v=.agg [.d (.int .u64 0),.d (.slice true []),.d (.slice true []),.d (.slice true []),.d (.slice true []),.d (.slice true [])]:=rfl;have e1:vw0.c.map V.d=[.d (.int .u64 0),.d (.slice true []),.d (.slice true []),.d (.slice true []),.d (.slice true []),.d (.slice true [])]:=rfl;have hdr:List.drop 6 (List.map V.d n.v.c)=[]:=rfl;rw [e0] at n33;rw [e1];simp +decide [aa,r98,hdr,g,dY,pq,KD,mr,KA,Ky,KC,hi,hs,h1,h2,n33,gs,gn,hnl,hn0,hn3,ack,az,aA,dE,Tr.spares,List.range,List.range.loop]
  . have hdr:List.drop 6 (List.map V.d n.v.c)=[]:=rfl;have h5:¬ n.seq=0:=h4 ▸ h3;simp +decide [aa,r98,g,dY,pq,KD,mr,KA,Ky,KC,hi,hs,h1,h2,h4,h5,n33,gs,gn,hnl,hn0,hn3,ack,az,aA,dE,Tr.spares,List.range,List.range.loop]
 cases hbd:Bd E TN8 je r98 [.ptr nb 0,ag p.c] ⟨bs,bs.length⟩ with
 | none=>rw [hbd] at hB; cases hB
 | some o =>
  obtain ⟨r,b',lo'⟩:=o;rw [hbd] at hB;simp only [Option.map_some,be,ct] at hB;obtain ⟨rfl,rfl⟩:=hB;refine ⟨.cells (p.c.map .d),.cells ((Ack.c ⟨p.life,p.inc,p.seq,1⟩).map .d),.cells (base.c.map .d),.cells (x.c.map .d),λlo=>min lo lo',λlo=>?_⟩;rw [av SV rfl];show fQ ⟨bs,lo⟩ (Bd E TN8 je r98 [.ptr nb 0,ag p.c] ⟨bs,bs.length⟩)=_;rw [hbd,gY,if_neg (by rintro ⟨_,h⟩; simp [V.under] at h; omega)]
end
end
section
def mW (L:Int):Fd:=⟨2,L,0,0,⟨true,[]⟩,0,0,vw0,0,vw0,0,0⟩
def VOk (v:Vw):Prop:=v.ok/\(∀ q∈v.policies.l,q.wf big)/\aY v=true
structure PshI (H:Int->Vw) (n:Int) (p:Psh):Prop where
 lo:1<=p.seq
 hi:p.seq<=n
 upon:0<=p.upon/\p.upon<p.seq
 made:∃ b v:Vw,VOk b/\b.nf=(H p.upon).nf/\VOk v/\v.nf=(H p.seq).nf/\p.delta=bC b v
theorem PshI.le {H H':Int->Vw}{n m:Int}{p:Psh}(h:PshI H n p)(hm:n<=m)(hh:∀ k,k<=n->H' k=H k):PshI H' m p:=by
 have h1:=h.hi;have h2:=h.upon;refine ⟨h.lo,by omega,h2,?_⟩;rw [hh _ h1,hh _ (by omega)];exact h.made
structure RowI (c:Cfg) (cs:List Cfg) (al:List (Sl Int)) (L:Int) (f:Fd) (n:Nde) (ps:List Psh) (H:Int->Vw):Prop where
 node:f.node=2
 life:f.life=L
 ok:FdOk f
 cur:c∈cs
 cok:∀ d∈cs,CfgOk d/\bK d=true
 addrs:f.addrs∈al
 aok:∀ a∈al,short a
 inc:f.inc<=n.inc
 seq:0<=f.seq/\f.seq<=4611686018427387903
 zero:H 0=vw0
 hist:∀ k,1<=k->k<=f.seq->∃ d∈cs,∃ a∈al,OfR d ⟨2,a⟩ (H k) 0
 top:∀ k,1<=k->k<=f.seq->(H k).epoch<=c.epoch
 mono:∀ j k,1<=j->j<=k->k<=f.seq->(H j).epoch<=(H k).epoch
 out:f.out≠1\/(1<=f.seq/\f.upon<f.seq/\f.sent.nf=(H f.seq).nf)
 upon:0<=f.upon/\f.upon<=f.seq/\f.base.nf=(H f.upon).nf
 psh:∀ p∈ps,p.inc<=f.inc/\(p.inc=f.inc->PshI H f.seq p)
 whole:n.whole=true->n.inc=f.inc/\1<=n.seq/\n.seq<=f.seq/\n.v.nf=(H n.seq).nf
 part:n.whole=false->n.v=vw0/\n.seq=0
 vok:n.v.ok/\∀ p∈n.v.policies.l,p.wf big
def OutI (L:Int)(f:Fd)(l:List Psh):Prop:=l.length<=1/\∀ p∈l,p.life=L/\p.upon<p.seq/\p.inc=f.inc/\p.seq=f.seq/\p.upon=f.upon
theorem OutI.nil {L:Int}{f:Fd}:OutI L f []:=⟨by simp,λp hp=>by cases hp⟩
theorem OfR.zero {c:Cfg}{s:Scp}{v:Vw}(h:OfR c s v 0):v.epoch=c.epoch/\bK c=true/\bW s=true:=by
 obtain ⟨_,h1,h2,nl,_,rfl⟩ | ⟨h,_⟩:=h
 . exact ⟨rfl,h1,h2⟩
 . cases h
theorem wU {a b:Vw}(h:a.nf=b.nf):a.epoch=b.epoch:=by
 have:=congrArg Vw.epoch h;exact this
section
variable {c:Cfg}{cs:List Cfg}{al:List (Sl Int)}{L:Int}{f:Fd}{n:Nde}{ps:List Psh}{H:Int->Vw}
theorem RowI.sub (I:RowI c cs al L f n ps H){qs:List Psh}(h:∀ p∈qs,p∈ps):RowI c cs al L f n qs H:={ I with psh:=λp hp=>I.psh p (h p hp) }
theorem RowI.more (I:RowI c cs al L f n ps H){p:Psh}(h:p∈ps):RowI c cs al L f n (ps++[p]) H :=
 I.sub λq hq=>by obtain h' | h':=List.mem_append.1 hq<;>simp_all
theorem RowI.ask (I:RowI c cs al L f n ps H){a:Sl Int}(h:short a)(k:Int):RowI c cs (al++[a]) L f { n with asked:=k } ps H :=
 { I with
  addrs:=List.mem_append_left _ I.addrs
  aok:=λx hx=>by
   obtain h' | h':=List.mem_append.1 hx
   . exact I.aok x h'
   . simp at h'; rw [h']; exact h
  hist:=λk h1 h2=>by
   obtain ⟨d,hd,a,ha,ho⟩:=I.hist k h1 h2;exact ⟨d,hd,a,List.mem_append_left _ ha,ho⟩ }
theorem RowI.cfg (I:RowI c cs al L f n ps H){d:Cfg}(h:CfgOk d)(hm:bK d=true)(he:c.epoch<=d.epoch):RowI d (cs++[d]) al L f n ps H :=
 { I with
  cur:=by simp
  cok:=λx hx=>by
   obtain h' | h':=List.mem_append.1 hx
   . exact I.cok x h'
   . simp at h'; rw [h']; exact ⟨h,hm⟩
  hist:=λk h1 h2=>by
   obtain ⟨d,hd,a,ha,ho⟩:=I.hist k h1 h2;exact ⟨d,List.mem_append_left _ hd,a,ha,ho⟩
  top:=λk h1 h2=>Int.le_trans (I.top k h1 h2) he }
theorem RowI.anew (I:RowI c cs al L f n ps H){k:Int}(h:n.inc<k):RowI c cs al L f ⟨k,0,0,vw0,false⟩ ps H :=
 { I with
  inc:=by have:=I.inc; show f.inc<=k; omega
  whole:=λh=>by cases h
  part:=λ_=>⟨rfl,rfl⟩
  vok:=⟨jL,λp hp=>by cases hp⟩ }
theorem RowI.own (I:RowI c cs al L f n ps H):RowI c cs al L f.own n ps H :=
 { I with
  ok:=Fd.own_ok I.ok
  out:=by
   obtain h | ⟨h1,h2,h3⟩:=I.out
   . exact .inl h
   . exact .inr ⟨h1,h2,(Vw.own_nf _).trans h3⟩
  upon:=⟨I.upon.1,I.upon.2.1,(Vw.own_nf _).trans I.upon.2.2⟩ }
theorem RowI.goOn (I:RowI c cs al L f n ps H){now:Int}{f':Fd}{l:List Psh}(g:GoOn c now f f' l)(hf:FdOk f'):∃ H',RowI c cs al L f' n (ps++l) H'/\OutI L f' l:=by
 obtain ⟨v,e,ho,g⟩:=g;obtain ⟨_,rfl,rfl⟩ | ⟨hs,rfl,rfl⟩:=g
 . exact ⟨H,by simpa using I,.nil⟩
 have hq:=I.seq;have hu:=I.upon;simp only [fV,Bool.or_eq_false_iff,Bool.not_eq_false',beq_iff_eq,decide_eq_false_iff_not,ge_iff_le,Int.not_le] at hs;obtain ⟨rfl,hi,h0,_,hbm,hlt⟩:=hs;have hw:wrap .u64 (f.seq+1)=f.seq+1:=by rw [qf]; omega
 obtain ⟨he,hcm,hsm⟩:=ho.zero;obtain ⟨ov,wv,mv⟩:=ho.of (I.cok c I.cur).1;have e1:(bN f v now).seq=f.seq+1:=hw;have hH:∀ k,k<=f.seq->(λk=>if k=f.seq+1 then v else H k) k=H k:=λk hk=>if_neg (by omega);have hH1:(λk=>if k=f.seq+1 then v else H k) (f.seq+1)=v:=if_pos rfl;generalize (λk=>if k=f.seq+1 then v else H k)=G at hH hH1;have hp:PshI G (f.seq+1) (dH (bN f v now) (bC f.base v)):=by
  refine ⟨?_,?_,?_,f.base,v,⟨I.ok.base,I.ok.basew,by simpa using hbm⟩,?_,⟨ov,wv,mv rfl⟩,?_,rfl⟩
  . show 1<=(bN f v now).seq; omega
  . show (bN f v now).seq<=_; omega
  . show 0<=f.upon/\f.upon<(bN f v now).seq; omega
  . show f.base.nf=(G f.upon).nf;rw [hH _ (by omega)]; exact hu.2.2
  . show v.nf=(G (bN f v now).seq).nf;rw [e1,hH1]
 refine ⟨G,⟨I.node,I.life,hf,I.cur,I.cok,I.addrs,I.aok,I.inc,?_,?_,?_,?_,?_,?_,?_,?_,?_,I.part,I.vok⟩,by simp,λp hp=>?_⟩
 . rw [e1]; omega
 . rw [hH _ (by omega)]; exact I.zero
 . intro k h1 h2;rw [e1] at h2;obtain h | h:=Int.lt_or_le f.seq k
   . have:k=f.seq+1:=by omega
     subst this;rw [hH1];refine ⟨c,I.cur,f.addrs,I.addrs,?_⟩;rw [I.node] at ho; exact ho
   . rw [hH _ h]; exact I.hist k h1 h
 . intro k h1 h2;rw [e1] at h2;obtain h | h:=Int.lt_or_le f.seq k
   . have:k=f.seq+1:=by omega
     subst this;rw [hH1]; omega
   . rw [hH _ h]; exact I.top k h1 h
 . intro j k h1 h2 h3;rw [e1] at h3;obtain h | h:=Int.lt_or_le f.seq k
   . have:k=f.seq+1:=by omega
     subst this;obtain h' | h':=Int.lt_or_le f.seq j
     . have:j=f.seq+1:=by omega
       subst this; omega
     . rw [hH1,hH _ h',he]; exact I.top j h1 h'
   . rw [hH _ h,hH _ (by omega)]; exact I.mono j k h1 h2 h
 . refine .inr ⟨by rw [e1]; omega,by rw [e1]; show f.upon<_; omega,?_⟩;rw [e1,hH1]; rfl
 . refine ⟨hu.1,by rw [e1]; show f.upon<=_; omega,?_⟩;show f.base.nf=(G f.upon).nf;rw [hH _ (by omega)]; exact hu.2.2
 . intro p hm;rw [e1];obtain h | h:=List.mem_append.1 hm
   . obtain ⟨a1,a2⟩:=I.psh p h;exact ⟨a1,λhx=>(a2 hx).le (by omega) hH⟩
   . simp at h;subst h;exact ⟨Int.le_refl _,λ_=>hp⟩
 . intro hwh;obtain ⟨a1,a2,a3,a4⟩:=I.whole hwh;refine ⟨a1,a2,by rw [e1]; omega,?_⟩;rw [hH _ a3]; exact a4
 . simp at hp;subst hp;exact ⟨I.life,by show f.upon<(bN f v now).seq; omega,rfl,rfl,rfl⟩
theorem RowI.tick (I:RowI c cs al L f n ps H){now:Int}{f':Fd}{l:List Psh}(g:Tckd now f f' l):RowI c cs al L f' n (ps++l) H/\OutI L f' l:=by
 obtain ⟨_,rfl,rfl⟩ | ⟨hi,rfl,rfl⟩:=g
 . exact ⟨by simpa using I.own,.nil⟩
 have ho:f.out=1:=by
  simp only [qo,Bool.or_eq_false_iff,Bool.not_eq_false',beq_iff_eq] at hi;exact hi.1
 have J:RowI c cs al L (fF f now) n ps H:={ I.own with ok:=⟨I.own.ok.addrs,I.own.ok.sent,I.own.ok.sentw,I.own.ok.base,I.own.ok.basew⟩ };obtain ⟨q1,q2,q3⟩:1<=f.seq/\f.upon<f.seq/\f.sent.nf=(H f.seq).nf:=by
  obtain h | h:=I.out
  . exact absurd ho h
  . exact h
 unfold xn;split
 . rename_i hm;simp only [aw] at hm;have hp:PshI H f.seq (dH (fF f now) (bC (fF f now).base (fF f now).sent)) :=
    ⟨q1,Int.le_refl _,⟨I.upon.1,q2⟩,_,_,⟨J.ok.base,J.ok.basew,hm.1⟩,J.upon.2.2,⟨J.ok.sent,J.ok.sentw,hm.2⟩,(Vw.own_nf _).trans q3,rfl⟩
   refine ⟨{ J with psh:=λp hx=>?_ },by simp,λp hx=>?_⟩
   . obtain h | h:=List.mem_append.1 hx
     . exact I.psh p h
     . simp at h;subst h;exact ⟨Int.le_refl _,λ_=>hp⟩
   . simp at hx;subst hx;exact ⟨I.life,q2,rfl,rfl,rfl⟩
 . exact ⟨by simpa using J,.nil⟩
theorem RowI.acked (I:RowI c cs al L f n ps H){now:Int}{f':Fd}{l:List Psh}{a:Ack}(g:Ackd c now f a f' l)(hf:FdOk f'):∃ H',RowI c cs al L f' n (ps++l) H'/\OutI L f' l:=by
 have J:=I.own;have hso:=Vw.own_ok J.ok.sent J.ok.sentw;obtain ⟨_,rfl,rfl⟩ | ⟨_,_,_,h4,_,g⟩ | ⟨_,_,_,h4,_,g⟩:=g
 . exact ⟨H,by simpa using J,.nil⟩
 . obtain ⟨q1,q2,q3⟩:1<=f.seq/\f.upon<f.seq/\f.sent.nf=(H f.seq).nf:=by
    obtain h | h:=I.out
    . exact absurd h4 h
    . exact h
   refine RowI.goOn (f:=wE f) (H:=H) ?_ g hf;exact { J with
    ok:=⟨J.ok.addrs,J.ok.sent,J.ok.sentw,hso.1,hso.2⟩
    out:=.inl (by show (0:Int)≠1; decide)
    upon:=⟨by show 0<=f.seq; omega,Int.le_refl _,(Vw.own_nf _).trans ((Vw.own_nf _).trans q3)⟩ }
 . refine RowI.goOn (f:=Ba f) (H:=H) ?_ g hf;exact { J with
    ok:=⟨J.ok.addrs,J.ok.sent,J.ok.sentw,jL,λp hp=>by cases hp⟩
    out:=.inl (by show (0:Int)≠1; decide)
    upon:=⟨Int.le_refl _,I.seq.1,by show vw0.nf=(H 0).nf; rw [I.zero]⟩ }
theorem RowI.subs (I:RowI c cs al L f n ps H){now:Int}{f':Fd}{l:List Psh}{s:Sbs}(hi:s.inc=n.inc)(hs:s.addrs∈al)(g:Subs c now f s f' l)(hf:FdOk f'):∃ H',RowI c cs al L f' n (ps++l) H'/\OutI L f' l:=by
 have J:=I.own;obtain ⟨_,rfl,rfl⟩ | ⟨_,h1,g⟩ | ⟨_,h1,_,g⟩:=g
 . exact ⟨H,by simpa using J,.nil⟩
 . refine RowI.goOn (f:=gZ (tN f s) s) (H:=λ_=>vw0) ?_ g hf;have hz:∀ p∈vw0.policies.l,p.wf big:=λp hp=>by cases hp
   exact { I with
    ok:=⟨I.aok _ hs,jL,hz,jL,hz⟩
    addrs:=hs
    inc:=by show s.inc<=n.inc; omega
    seq:=⟨Int.le_refl _,by show (0:Int)<=_; omega⟩
    zero:=rfl
    hist:=λk h1 h2=>absurd (show k<=0 from h2) (by omega)
    top:=λk h1 h2=>absurd (show k<=0 from h2) (by omega)
    mono:=λj k h1 h2 h3=>absurd (show k<=0 from h3) (by omega)
    out:=.inl (by show (0:Int)≠1; decide)
    upon:=⟨Int.le_refl _,Int.le_refl _,rfl⟩
    psh:=λp hp=>by
     have:=(I.psh p hp).1;exact ⟨by show p.inc<=s.inc; omega,λh=>absurd (show p.inc=s.inc from h) (by omega)⟩
    whole:=λh=>by
     have:=(I.whole h).1;omega }
 . refine RowI.goOn (f:=gZ f.own s) (H:=H) ?_ g hf;exact { J with ok:=⟨I.aok _ hs,J.ok.sent,J.ok.sentw,J.ok.base,J.ok.basew⟩,addrs:=hs }
theorem RowI.take (I:RowI c cs al L f n ps H){p:Psh}(hp:p∈ps)(h1:p.inc=n.inc)(h2:¬ p.seq<n.seq){base:Vw}
 (hc:(p.upon=0/\base=vw0)\/(n.whole=true/\p.upon≠0/\p.upon=n.seq/\base=n.v)) :
 ∃ b v:Vw,VOk b/\VOk v/\p.delta=bC b v/\base.ok/\(∀ q∈base.policies.l,q.wf big)/\base.nf=b.nf ∧
  ∀ x:Vw,x.ok->(∀ q∈x.policies.l,q.wf big)->x.nf=v.nf->RowI c cs al L f ⟨n.inc,n.asked,p.seq,x,true⟩ ps H/\n.v.epoch<=x.epoch:=by
 obtain ⟨a1,a2⟩:=I.psh p hp;have hi:=I.inc;obtain ⟨p1,p2,p3,b,v,vb,nb,vv,nv,hd⟩:=a2 (by omega);refine ⟨b,v,vb,vv,hd,?_,?_,?_,λx x1 x2 x3=>⟨?_,?_⟩⟩
 . obtain ⟨_,rfl⟩ | ⟨_,_,_,rfl⟩:=hc
   . exact jL
   . exact I.vok.1
 . obtain ⟨_,rfl⟩ | ⟨_,_,_,rfl⟩:=hc
   . exact λq hq=>by cases hq
   . exact I.vok.2
 . obtain ⟨h,rfl⟩ | ⟨hw,_,h,rfl⟩:=hc
   . rw [nb,h,I.zero]
   . rw [nb,h]; exact (I.whole hw).2.2.2
 . exact { I with
    whole:=λ_=>⟨by show n.inc=f.inc; omega,p1,p2,x3.trans nv⟩
    part:=λh=>by cases h
    vok:=⟨x1,x2⟩ }
 . rw [wU (x3.trans nv)];cases hw:n.whole with
   | false =>
    rw [(I.part hw).1];obtain ⟨d,hd,a,ha,ho⟩:=I.hist _ p1 p2;rw [ho.zero.1];have:=(I.cok d hd).1.w1.1;simp [Inr,Lit.wf,IntKind.min,IntKind.max,IntKind.bits,IntKind.signed] at this;show (0:Int)<=d.epoch;omega
   | true =>
    obtain ⟨w1,w2,w3,w4⟩:=I.whole hw;rw [wU w4];exact I.mono _ _ w2 (by omega) p2
theorem RowI.there (I:RowI c cs al L f n ps H)(hw:n.whole=true):∃ d∈cs,∃ a∈al,d.epoch=n.v.epoch/\∀ w e,OfR d ⟨2,a⟩ w e->e=0/\n.v.same w=true:=by
 obtain ⟨w1,w2,w3,w4⟩:=I.whole hw;obtain ⟨d,hd,a,ha,ho⟩:=I.hist _ w2 w3;obtain ⟨he,hm,hs⟩:=ho.zero;refine ⟨d,hd,a,ha,by rw [wU w4,he],λw e hx=>?_⟩;obtain ⟨rfl,_⟩:=hx.yes hm hs;exact ⟨rfl,Vw.same_iff.2 (w4.trans (ho.one hx hm hs))⟩
theorem RowI.same (I:RowI c cs al L f n ps H)(hw:n.whole=true):n.inc=f.inc:=(I.whole hw).1
end
end
section
section
variable {E:Calls'}
theorem took {r:V}{bs b':List Blk}{nb:Nat}{p:Psh}(hr:r.under bs.length=false)(hB:(Bd E TN8 je r98 [.ptr nb 0,ag p.c] ⟨bs,bs.length⟩).map (λo=>(o.1,o.2.bs))=some (r,b')) :
 ∃ F:Nat->Nat,∀ lo,Sm E TN8 je 13 [.ptr nb 0,ag p.c] ⟨bs,lo⟩=some (r,⟨b',F lo⟩):=by
 cases hbd:Bd E TN8 je r98 [.ptr nb 0,ag p.c] ⟨bs,bs.length⟩ with
 | none=>rw [hbd] at hB; cases hB
 | some o =>
  obtain ⟨r1,b1,lo'⟩:=o;rw [hbd] at hB;simp only [Option.map_some,be,ct] at hB;obtain ⟨rfl,rfl⟩:=hB;refine ⟨λlo=>min lo lo',λlo=>?_⟩;rw [av SV rfl];show fQ ⟨bs,lo⟩ (Bd E TN8 je r98 [.ptr nb 0,ag p.c] ⟨bs,bs.length⟩)=_;rw [hbd,gY,if_neg (by rintro ⟨_,h⟩; rw [hr] at h; cases h)]
theorem bn5 {bs:List Blk}{nb:Nat}{n:Nde}(hb:au bs nb=some (n.c.map .d)){p:Psh}(h:p.inc≠n.inc\/p.seq<n.seq)(lo:Nat):Sm E TN8 je 13 [.ptr nb 0,ag p.c] ⟨bs,lo⟩=some (.d (.slice true []),⟨bs,lo⟩):=by
 have hnl:=aK hb;have g:=λys=>ak (ys:=ys) hb;rw [av SV rfl];by_cases h1:p.inc=n.inc
 . have h2:p.seq<n.seq:=h.resolve_left (λk=>k h1);simp +decide [aa,r98,g,dY,pq,nD,qK,qL,pE,h1,h2,hnl,az,put,V.under]
 . simp +decide [aa,r98,g,dY,pq,nD,qK,qL,pE,h1,hnl,az,put,V.under]
theorem bn6 {bs:List Blk}{nb:Nat}{n:Nde}(hb:au bs nb=some (n.c.map .d)){p:Psh}(h1:p.inc=n.inc)(hw:n.whole=true)(h2:p.seq=n.seq) :
 ∃ b1 b2,∃ F:Nat->Nat,∀ lo,Sm E TN8 je 13 [.ptr nb 0,ag p.c] ⟨bs,lo⟩=some (.row (bs.length+2) 0 1 (some 1) 4,⟨bs++[b1,b2,.cells ((Ack.c ⟨p.life,p.inc,p.seq,1⟩).map .d)],F lo⟩):=by
 have hnl:=aK hb;have g:=λys=>ak (ys:=ys) hb;have hn1:¬ nb=bs.length+1:=by omega
 have hlt:¬ n.seq<n.seq:=by omega
 have ack:∀ k:Int,(Ack.c ⟨p.life,n.inc,n.seq,k⟩).map V.d=[.d (u64 p.life),.d (u64 n.inc),.d (u64 n.seq),.d (i64 k)]:=λ_=>rfl;have hB:(Bd E TN8 je r98 [.ptr nb 0,ag p.c] ⟨bs,bs.length⟩).map (λo=>(o.1,o.2.bs))=some (.row (bs.length+2) 0 1 (some 1) 4,bs++[.cells (p.c.map .d),.cells ((Ack.c ⟨p.life,p.inc,p.seq,1⟩).map .d),.cells ((Ack.c ⟨p.life,p.inc,p.seq,1⟩).map .d)]):=by
  simp +decide [aa,r98,g,dY,pq,mr,nD,qK,qL,pE,h1,h2,hw,hlt,hnl,hn1,ack,az,put,ai]
 obtain ⟨F,k⟩:=took (by simp [V.under]) hB;exact ⟨_,_,F,k⟩
theorem bn7 {bs:List Blk}{nb:Nat}{n:Nde}(hb:au bs nb=some (n.c.map .d)){p:Psh}(h1:p.inc=n.inc)(h2:¬ p.seq<n.seq)(hd:n.whole=true->p.seq≠n.seq)(hu:p.upon≠0)(hn:n.whole=true->p.upon≠n.seq) :
 ∃ b1 b2 b3,∃ F:Nat->Nat,∀ lo,Sm E TN8 je 13 [.ptr nb 0,ag p.c] ⟨bs,lo⟩=some (.row (bs.length+3) 0 1 (some 1) 4,⟨bs++[b1,b2,b3,.cells ((Ack.c ⟨p.life,p.inc,p.seq,0⟩).map .d)],F lo⟩):=by
 have hnl:=aK hb;have g:=λys=>ak (ys:=ys) hb;have hn1:¬ nb=bs.length+1:=by omega
 have e1:vw0.c.map V.d=[.d (.int .u64 0),.d (.slice true []),.d (.slice true []),.d (.slice true []),.d (.slice true []),.d (.slice true [])]:=rfl;have vp:put [V.d (.int .u64 0),.d (.slice true []),.d (.slice true []),.d (.slice true []),.d (.slice true []),.d (.slice true [])] 0 (n.v.c.map .d)=some (n.v.c.map .d):=rfl;have hdr:List.drop 6 (List.map V.d n.v.c)=[]:=rfl;have ack:∀ k:Int,(Ack.c ⟨p.life,n.inc,p.seq,k⟩).map V.d=[.d (u64 p.life),.d (u64 n.inc),.d (u64 p.seq),.d (i64 k)]:=λ_=>rfl;have hB:(Bd E TN8 je r98 [.ptr nb 0,ag p.c] ⟨bs,bs.length⟩).map (λo=>(o.1,o.2.bs))=some (.row (bs.length+3) 0 1 (some 1) 4,bs++[.cells (p.c.map .d),.cells ((Ack.c ⟨p.life,p.inc,p.seq,0⟩).map .d),.cells (n.v.c.map .d),.cells ((Ack.c ⟨p.life,p.inc,p.seq,0⟩).map .d)]):=by
  cases hw:n.whole with
  | false=>simp +decide [aa,r98,g,hdr,dY,pq,KD,mr,nD,qK,qL,vE,pE,h1,h2,hw,hu,hnl,hn1,ack,vp,qZ,az,put,ai]
  | true =>
   have hd':=hd hw;have hn':=hn hw;simp +decide [aa,r98,g,hdr,dY,pq,KD,mr,nD,qK,qL,vE,pE,h1,h2,hw,hd',hn',hu,hnl,hn1,ack,vp,qZ,az,put,ai]
 obtain ⟨F,k⟩:=took (by simp [V.under]) hB;exact ⟨_,_,_,F,k⟩
theorem bn8 {bs:List Blk}{nb:Nat}{n:Nde}(hb:au bs nb=some (n.c.map .d)){p:Psh}{x:Vw}(hi:p.inc=n.inc)(hs:¬ p.seq<n.seq)(h1:n.whole=true)(h2:p.seq≠n.seq)(h3:p.upon=0)
 (k33:∀ h,E 32 [vw0.v,ag p.delta.c] h=some (.tup [x.v,.d (i64 0)],h)) :
 ∃ b1 b2 b3 b4,∃ F:Nat->Nat,∀ lo,Sm E TN8 je 13 [.ptr nb 0,ag p.c] ⟨bs,lo⟩=some (.row (bs.length+4) 0 1 (some 1) 4,⟨bs.set nb (.cells (Nde.c ⟨n.inc,n.asked,p.seq,x,true⟩ |>.map .d))++[b1,b2,b3,b4,.cells ((Ack.c ⟨p.life,p.inc,p.seq,1⟩).map .d)],F lo⟩):=by
 have hnl:=aK hb;have n33:∀ h,Sm E TN8 je 32 [vw0.v,ag p.delta.c] h=some (.tup [x.v,.d (i64 0)],h):=λh=>(aG YA).trans (k33 h);have g:=λys=>ak (ys:=ys) hb;have gs:∀ ys X,au (bs.set nb (.cells X)++ys) nb=some X:=λys X=>ak (mi hb);have gn:∀ X a b ys,au (bs.set nb (.cells X)++a::.cells b::ys) (bs.length+1)=some b:=λX a b ys=>by
  unfold au;rw [bm (by simp)];simp
 have hn1:¬ nb=bs.length+1:=by omega
 have hn0:¬ bs.length=nb:=by omega
 have hn3:¬ bs.length+3=nb:=by omega
 have ack:∀ k:Int,(Ack.c ⟨p.life,n.inc,p.seq,k⟩).map V.d=[.d (u64 p.life),.d (u64 n.inc),.d (u64 p.seq),.d (i64 k)]:=λ_=>rfl;have e0:vw0.v=.agg [.d (.int .u64 0),.d (.slice true []),.d (.slice true []),.d (.slice true []),.d (.slice true []),.d (.slice true [])]:=rfl;have e1:vw0.c.map V.d=[.d (.int .u64 0),.d (.slice true []),.d (.slice true []),.d (.slice true []),.d (.slice true []),.d (.slice true [])]:=rfl;have hdr:List.drop 6 (List.map V.d n.v.c)=[]:=rfl;rw [e0] at n33;have hB:(Bd E TN8 je r98 [.ptr nb 0,ag p.c] ⟨bs,bs.length⟩).map (λo=>(o.1,o.2.bs))=some (.row (bs.length+4) 0 1 (some 1) 4,bs.set nb (.cells (Nde.c ⟨n.inc,n.asked,p.seq,x,true⟩ |>.map .d))++[.cells (p.c.map .d),.cells ((Ack.c ⟨p.life,p.inc,p.seq,1⟩).map .d),.cells (vw0.c.map .d),.cells (x.c.map .d),.cells ((Ack.c ⟨p.life,p.inc,p.seq,1⟩).map .d)]):=by
  rw [e1];simp +decide [aa,r98,hdr,g,dY,pq,KD,mr,KA,Ky,KC,nD,qK,qL,vE,KY,Ak,qZ,RS,pE,hi,hs,h1,h2,h3,n33,gs,gn,hnl,hn1,hn0,hn3,ack,VT,az,List.set_append,aA,ae,bA,dE,Tr.spares,List.range,List.range.loop]
 obtain ⟨F,k⟩:=took (by simp [V.under]) hB;exact ⟨_,_,_,_,F,k⟩
end
end
section
def adC (a:Sl Int):List D:=[a.d bn]
structure RowH (E:Calls'):Prop where
 h4:∀ (L:Int) h,E 4 [.d (i64 2),.d (u64 L)] h=some (cond (gu L) (.tup [(mW L).v,.d (i64 0)]) (.tup [fd0.v,.d (i64 1)]),h)
 h5:∀ c:Cfg,c.ok->∃ b:Bool,∀ h,E 5 [c.v] h=some (bl b,h)
 h6:∀ c:Cfg,CfgOk c->∀ h,E 6 [c.v] h=some (bl (bK c),h)
 h7:∀ h,E 7 [] h=some (bl true,h)
 h8:∀ e:Edt,e.wf big->∃ b:Bool,∀ h,E 8 [ag e.c] h=some (bl b,h)
 h9:∀ c:Cfg,CfgOk c->∀ e:Edt,e.wf 1048576->e.wf big->∀ h,E 9 [c.v,ag e.c] h=some (.tup [ag (bE c e).1.c,.d (i64 (bE c e).2)],h)
 h10:∀ f:Fd,FdOk f->∀ c:Cfg,CfgOk c->∀ now,∃ f' l,GoOn c now f.own f' l/\FdOk f'/\∀ h,E 10 [f.v,c.v,.d (u64 now)] h=some (.tup [f'.v,.d (fG l)],h)
 h11:∀ s:Sbs,short s.addrs->∀ h,E 11 [ag s.c] h=some (bl (lX s),h)
 h12:∀ f:Fd,FdOk f->∀ c:Cfg,CfgOk c->∀ now (s:Sbs),short s.addrs->∃ f' l,Subs c now f s f' l/\FdOk f'/\∀ h,E 12 [f.v,c.v,.d (u64 now),ag s.c] h=some (.tup [f'.v,.d (fG l)],h)
 h13a:∀ (bs:List Blk) (nb:Nat) (n:Nde),au bs nb=some (n.c.map .d)->∀ p:Psh,(p.inc≠n.inc\/p.seq<n.seq)->∀ lo,E 13 [.ptr nb 0,ag p.c] ⟨bs,lo⟩=some (.d (.slice true []),⟨bs,lo⟩)
 h13b:∀ (bs:List Blk) (nb:Nat) (n:Nde),au bs nb=some (n.c.map .d)->∀ p:Psh,p.inc=n.inc->n.whole=true->p.seq=n.seq →
  ∃ b1 b2,∃ F:Nat->Nat,∀ lo,E 13 [.ptr nb 0,ag p.c] ⟨bs,lo⟩=some (.row (bs.length+2) 0 1 (some 1) 4,⟨bs++[b1,b2,.cells ((Ack.c ⟨p.life,p.inc,p.seq,1⟩).map .d)],F lo⟩)
 h13c:∀ (bs:List Blk) (nb:Nat) (n:Nde),au bs nb=some (n.c.map .d)->∀ p:Psh,p.inc=n.inc->¬ p.seq<n.seq->(n.whole=true->p.seq≠n.seq)->p.upon≠0->(n.whole=true->p.upon≠n.seq) →
  ∃ b1 b2 b3,∃ F:Nat->Nat,∀ lo,E 13 [.ptr nb 0,ag p.c] ⟨bs,lo⟩=some (.row (bs.length+3) 0 1 (some 1) 4,⟨bs++[b1,b2,b3,.cells ((Ack.c ⟨p.life,p.inc,p.seq,0⟩).map .d)],F lo⟩)
 h13d:∀ (bs:List Blk) (nb:Nat) (n:Nde),au bs nb=some (n.c.map .d)->∀ (p:Psh) (x base:Vw),p.inc=n.inc->¬ p.seq<n.seq →
  ((n.whole=false/\p.upon=0/\base=vw0)\/(n.whole=true/\p.seq≠n.seq/\p.upon≠0/\p.upon=n.seq/\base=n.v)\/(n.whole=true/\p.seq≠n.seq/\p.upon=0/\base=vw0))->(∀ h,E 32 [base.v,ag p.delta.c] h=some (.tup [x.v,.d (i64 0)],h)) →
  ∃ b1 b2 b3 b4,∃ F:Nat->Nat,∀ lo,E 13 [.ptr nb 0,ag p.c] ⟨bs,lo⟩=some (.row (bs.length+4) 0 1 (some 1) 4,⟨bs.set nb (.cells (Nde.c ⟨n.inc,n.asked,p.seq,x,true⟩ |>.map .d))++[b1,b2,b3,b4,.cells ((Ack.c ⟨p.life,p.inc,p.seq,1⟩).map .d)],F lo⟩)
 h15:∀ f:Fd,FdOk f->∀ c:Cfg,CfgOk c->∀ now (a:Ack),∃ f' l,Ackd c now f a f' l/\FdOk f'/\∀ h,E 15 [f.v,c.v,.d (u64 now),ag a.c] h=some (.tup [f'.v,.d (fG l)],h)
 h17:∀ f:Fd,FdOk f->∀ now,∃ f' l,Tckd now f f' l/\FdOk f'/\∀ h,E 17 [f.v,.d (u64 now)] h=some (.tup [f'.v,.d (fG l)],h)
 h32:∀ a' a b:Vw,a'.ok->(∀ p∈a'.policies.l,p.wf big)->a.ok->b.ok->(∀ p∈b.policies.l,p.wf big)->aY a=true->aY b=true->a'.nf=a.nf →
  ∃ x:Vw,x.ok/\(∀ p∈x.policies.l,p.wf big)/\x.nf=b.nf/\∀ h,E 32 [a'.v,ag (bC a b).c] h=some (.tup [x.v,.d (i64 0)],h)
 h35:∀ c:Cfg,CfgOk c->∀ s:Scp,short s.addrs->∃ v e,OfR c s v e/\∀ h,E 35 [c.v,.agg [.d (i64 s.node),.d (s.addrs.d bn)]] h=some (.tup [v.v,.d (i64 e)],h)
 h36:∀ a b:Vw,a.ok->∀ h,E 36 [a.v,b.v] h=some (bl (a.same b),h)
section
variable {E:Calls'}(H:RowH E)
def Am (v:Vw)(d:Cfg)(a:Sl Int):Prop:=∀ w e,OfR d ⟨2,a⟩ w e->e=0/\v.same w=true
include H in
theorem WM {v:Vw}(hv:v.ok){cs:Sl Cfg}(hcs:cs.l.length<2 ^ 62){al:Sl (Sl Int)}(hal:al.l.length<2 ^ 62)(ha:∀ a∈al.l,short a){i:Nat}{d:Cfg}(hi:cs.l[i]?=some d)(hd:CfgOk d):∀ (m k:Nat) (bs:List Blk) (lo:Nat),k+m=al.l.length->au bs 0=some (v.c.map .d) →
 (∃ h',Cd E dM aW (.loop [1,2,3,7,8] jB) [(1,.d (cs.d Cfg.c)),(2,.d (al.d adC)),(3,.ptr 0 0),(7,.d (i64 i)),(8,.d (i64 k))] ⟨bs,lo⟩=some (.ret,[(6,bl true)],h')) ∨
 (¬ (d.epoch=v.epoch/\∃ a∈al.l.drop k,Am v d a)/\∃ bs' lo',au bs' 0=some (v.c.map .d)/\Cd E dM aW (.loop [1,2,3,7,8] jB) [(1,.d (cs.d Cfg.c)),(2,.d (al.d adC)),(3,.ptr 0 0),(7,.d (i64 i)),(8,.d (i64 k))] ⟨bs,lo⟩=some (.exit 2,[(1,.d (cs.d Cfg.c)),(2,.d (al.d adC)),(3,.ptr 0 0),(7,.d (i64 i))],⟨bs',lo'⟩)):=by
 intro m;have key:=ax (E:=E) (T:=dM) (val:=aW) [1,2,3,7,8] jB;generalize Cd E dM aW (.loop [1,2,3,7,8] jB)=W at key ⊢;have hx:=λh=>bv (z:=8) h hi (cells:=Cfg.c) rfl;have e0:sub d.c 0 1=some [u64 d.epoch]:=rfl;have e8:sub d.c 0 8=some d.c:=rfl;have v0:sub v.c 0 1=some [u64 v.epoch]:=rfl
 induction m with
 | zero =>
  intro k bs lo hk hb;refine .inr ⟨λhh=>?_,bs,lo,hb,?_⟩
  . obtain ⟨_,a,h,_⟩:=hh;rw [bb (by omega)] at h; cases h
  . rw [key];simp [jB,show ¬ ((k:Int)<al.l.length) from by omega,ai]
 | succ m ih =>
  intro k bs lo hk hb;have hlt:k<al.l.length:=by omega
  have hlt':((k:Int)<al.l.length):=by omega
  have hy:=λh=>bv (z:=1) h (ab hlt) (cells:=adC) rfl;have hm:=ha _ (bj hlt);have hdr:=ba hlt;generalize al.l[k]=a at *;have hwn:=aI hlt hal;by_cases he:d.epoch=v.epoch
  case neg =>
   refine .inr ⟨λhh=>he hh.1,bs,lo,hb,?_⟩;rw [key];simp [jB,hlt',hx,hb,e0,v0,he,ai]
  obtain ⟨w,e,ho,n35⟩:=H.h35 d hd ⟨2,a⟩ hm;have n35':∀ h,Sm E dM aW 35 [ag d.c,.agg [.d (i64 2),.d (a.d bn)]] h=some (.tup [ag w.c,.d (i64 e)],h):=λh=>(aG (by kernel_rfl)).trans (n35 h);have n36:∀ h,Sm E dM aW 36 [ag v.c,ag w.c] h=some (bl (v.same w),h):=λh=>(aG (by kernel_rfl)).trans (H.h36 v w hv h);have hl0:=aK hb;have hne:bs≠[]:=by rintro rfl; simp at hl0
  have g:=λys=>ak (ys:=ys) hb;have hya:adC a=[a.d bn]:=rfl;have q:=ih (k+1) (bs++[.cells (w.c.map .d)]) (min lo bs.length) (by omega) (g _);have bad:¬ (e=0/\v.same w=true)->(∃ h',W [(1,.d (cs.d Cfg.c)),(2,.d (al.d adC)),(3,.ptr 0 0),(7,.d (i64 i)),(8,.d (i64 k))] ⟨bs,lo⟩=W [(1,.d (cs.d Cfg.c)),(2,.d (al.d adC)),(3,.ptr 0 0),(7,.d (i64 i)),(8,.d (i64 (k+1:Nat)))] h'/\h'=⟨bs++[.cells (w.c.map .d)],min lo bs.length⟩) →
   (∃ h',W [(1,.d (cs.d Cfg.c)),(2,.d (al.d adC)),(3,.ptr 0 0),(7,.d (i64 i)),(8,.d (i64 k))] ⟨bs,lo⟩=some (.ret,[(6,bl true)],h')) ∨
   (¬ (d.epoch=v.epoch/\∃ a∈al.l.drop k,Am v d a)/\∃ bs' lo',au bs' 0=some (v.c.map .d)/\W [(1,.d (cs.d Cfg.c)),(2,.d (al.d adC)),(3,.ptr 0 0),(7,.d (i64 i)),(8,.d (i64 k))] ⟨bs,lo⟩=some (.exit 2,[(1,.d (cs.d Cfg.c)),(2,.d (al.d adC)),(3,.ptr 0 0),(7,.d (i64 i))],⟨bs',lo'⟩)):=by
   rintro hng ⟨h',hq,rfl⟩;rw [hq];obtain q | ⟨q1,q2⟩:=q
   . exact .inl q
   . refine .inr ⟨λhh=>?_,q2⟩;obtain ⟨h1,x,hx,hgx⟩:=hh;rw [hdr] at hx;obtain rfl | hx:=List.mem_cons.1 hx
     . exact hng (hgx _ _ ho)
     . exact q1 ⟨h1,x,hx,hgx⟩
  by_cases hk0:e=0
  . cases hs:v.same w with
    | true =>
     refine .inl ⟨⟨bs++[.cells (w.c.map .d)],min lo bs.length⟩,?_⟩;rw [hs] at n36;rw [key];simp [jB,hlt',hx,hy,hya,hb,g,e0,e8,v0,he,n35',n36,hk0,hwn,Ak,qZ,az,put,aA,ae,bA,dE,Tr.spares,List.range,List.range.loop,hne,ai]
    | false =>
     refine bad (by rw [hs]; rintro ⟨_,h⟩; cases h) ⟨_,?_,rfl⟩;rw [hs] at n36;rw [key];simp [jB,hlt',hx,hy,hya,hb,g,e0,e8,v0,he,n35',n36,hk0,hwn,Ak,qZ,az,put,aA,ae,bA,dE,Tr.spares,List.range,List.range.loop,hne,ai]
  . refine bad (λhh=>hk0 hh.1) ⟨_,?_,rfl⟩;rw [key];simp [jB,hlt',hx,hy,hya,hb,g,e0,e8,v0,he,n35',n36,hk0,hwn,Ak,qZ,az,put,aA,ae,bA,dE,Tr.spares,List.range,List.range.loop,hne,ai]
include H in
theorem MR {v:Vw}(hv:v.ok){cs:Sl Cfg}(hcs:cs.l.length<2 ^ 62)(hc:∀ d∈cs.l,CfgOk d){al:Sl (Sl Int)}(hal:al.l.length<2 ^ 62)(ha:∀ a∈al.l,short a)(hx:∃ d∈cs.l,∃ a∈al.l,d.epoch=v.epoch/\Am v d a)(h:Hp) :
 Sm E dM aW 18 [v.v,.d (cs.d Cfg.c),.d (al.d adC)] h=some (bl true,h):=by
 have loop:∀ (m i:Nat) (bs:List Blk) (lo:Nat),i+m=cs.l.length->au bs 0=some (v.c.map .d)->(∃ d∈cs.l.drop i,∃ a∈al.l,d.epoch=v.epoch/\Am v d a) →
  ∃ h',Cd E dM aW (.loop [1,2,3,7] qd) [(1,.d (cs.d Cfg.c)),(2,.d (al.d adC)),(3,.ptr 0 0),(7,.d (i64 i))] ⟨bs,lo⟩=some (.ret,[(6,bl true)],h'):=by
  intro m;have key:=ax (E:=E) (T:=dM) (val:=aW) [1,2,3,7] qd;generalize Cd E dM aW (.loop [1,2,3,7] qd)=W at key ⊢
  induction m with
  | zero =>
   intro i bs lo hi hb hh;obtain ⟨d,hd,_⟩:=hh;rw [bb (by omega)] at hd; cases hd
  | succ m ih =>
   intro i bs lo hi hb hh;have hlt:i<cs.l.length:=by omega
   have hlt':((i:Int)<cs.l.length):=by omega
   have hg:=ab hlt;have hdr:=ba hlt;have hwn:=aI hlt hcs;have q:=WM H hv hcs hal ha hg (hc _ (bj hlt)) al.l.length 0 bs lo (by omega) hb;have ez:((0:Nat):Int)=0:=rfl;simp only [ez] at q;obtain ⟨h',q⟩ | ⟨q1,bs',lo',q2,q⟩:=q
   . refine ⟨h',?_⟩;rw [key];simp [qd,hlt'];rw [aj];simp [q]
   . have hne:∃ d∈cs.l.drop (i+1),∃ a∈al.l,d.epoch=v.epoch/\Am v d a:=by
      obtain ⟨d,hd,a,h1,h2,h3⟩:=hh;rw [hdr] at hd;obtain rfl | hd:=List.mem_cons.1 hd
      . exact absurd ⟨h2,a,by simpa using h1,h3⟩ q1
      . exact ⟨d,hd,a,h1,h2,h3⟩
     obtain ⟨h',r⟩:=ih (i+1) bs' lo' (by omega) q2 hne;refine ⟨h',?_⟩;rw [key];simp [qd,hlt'];rw [aj];simp [q,hwn];simpa using r
 obtain ⟨h',q⟩:=loop cs.l.length 0 [.cells (v.c.map .d)] 0 (by omega) rfl (by simpa using hx);have ez:((0:Nat):Int)=0:=rfl;simp only [ez] at q;rw [aN Yv Yw];simp +decide [aa,Vn];rw [aj];simp [q]
end
end
section
structure Evt where
 does:Int
 i:Int
 edit:Edt
 addrs:Sl Int
def Evt.c (x:Evt):List D:=i64 x.does::i64 x.i::(x.edit.c++[x.addrs.d bn])
theorem zB (x:Cfg):List.drop 8 (x.c.map V.d)=[]:=(rfl)
theorem ve (x:Fd):List.drop 22 (x.c.map V.d)=[]:=(rfl)
theorem xE (x:Cfg):sub x.c 0 8=some x.c:=(rfl)
theorem Ag (x:Fd):sub x.c 0 22=some x.c:=(rfl)
structure RowM (o:Nat->Nat) (bs:List Blk) (c:Cfg) (f:Fd) (n:Nde) (nb:Nat) (cs:List Cfg) (al:List (Sl Int)) (ps:List Psh) (ks:List Ack) (vC vA vP vK:V):Prop where
 c:CAt o 0 bs 0 (c.c.map .d)
 f:CAt o 1 bs 1 (f.c.map .d)
 n:CAt o 2 bs nb (n.c.map .d)
 C:RAt o 3 bs 8 (cs.map Cfg.c) vC
 A:RAt o 4 bs 1 (al.map adC) vA
 P:RAt o 5 bs 14 (ps.map Psh.c) vP
 K:RAt o 6 bs 4 (ks.map Ack.c) vK
section
variable {o o':Nat->Nat}{bs bs':List Blk}{c c':Cfg}{f f':Fd}{n n':Nde}{nb nb':Nat}{cs cs':List Cfg}{al al':List (Sl Int)}{ps ps':List Psh}{ks ks':List Ack}{vC vA vP vK v:V}
theorem RowM.chgc (M:RowM o bs c f n nb cs al ps ks vC vA vP vK)(h:CAt o' 0 bs' 0 (c'.c.map .d))(g:Chg o 0 bs o' bs'):RowM o' bs' c' f n nb cs al ps ks vC vA vP vK :=
 ⟨h,M.f.chg g (by decide),M.n.chg g (by decide),M.C.chg g (by decide),M.A.chg g (by decide),M.P.chg g (by decide),M.K.chg g (by decide)⟩
theorem RowM.chgf (M:RowM o bs c f n nb cs al ps ks vC vA vP vK)(h:CAt o' 1 bs' 1 (f'.c.map .d))(g:Chg o 1 bs o' bs'):RowM o' bs' c f' n nb cs al ps ks vC vA vP vK :=
 ⟨M.c.chg g (by decide),h,M.n.chg g (by decide),M.C.chg g (by decide),M.A.chg g (by decide),M.P.chg g (by decide),M.K.chg g (by decide)⟩
theorem RowM.chgn (M:RowM o bs c f n nb cs al ps ks vC vA vP vK)(h:CAt o' 2 bs' nb' (n'.c.map .d))(g:Chg o 2 bs o' bs'):RowM o' bs' c f n' nb' cs al ps ks vC vA vP vK :=
 ⟨M.c.chg g (by decide),M.f.chg g (by decide),h,M.C.chg g (by decide),M.A.chg g (by decide),M.P.chg g (by decide),M.K.chg g (by decide)⟩
theorem RowM.chgC (M:RowM o bs c f n nb cs al ps ks vC vA vP vK)(h:RAt o' 3 bs' 8 (cs'.map Cfg.c) v)(g:Chg o 3 bs o' bs'):RowM o' bs' c f n nb cs' al ps ks v vA vP vK :=
 ⟨M.c.chg g (by decide),M.f.chg g (by decide),M.n.chg g (by decide),h,M.A.chg g (by decide),M.P.chg g (by decide),M.K.chg g (by decide)⟩
theorem RowM.chgA (M:RowM o bs c f n nb cs al ps ks vC vA vP vK)(h:RAt o' 4 bs' 1 (al'.map adC) v)(g:Chg o 4 bs o' bs'):RowM o' bs' c f n nb cs al' ps ks vC v vP vK :=
 ⟨M.c.chg g (by decide),M.f.chg g (by decide),M.n.chg g (by decide),M.C.chg g (by decide),h,M.P.chg g (by decide),M.K.chg g (by decide)⟩
theorem RowM.chgP (M:RowM o bs c f n nb cs al ps ks vC vA vP vK)(h:RAt o' 5 bs' 14 (ps'.map Psh.c) v)(g:Chg o 5 bs o' bs'):RowM o' bs' c f n nb cs al ps' ks vC vA v vK :=
 ⟨M.c.chg g (by decide),M.f.chg g (by decide),M.n.chg g (by decide),M.C.chg g (by decide),M.A.chg g (by decide),h,M.K.chg g (by decide)⟩
theorem RowM.chgK (M:RowM o bs c f n nb cs al ps ks vC vA vP vK)(h:RAt o' 6 bs' 4 (ks'.map Ack.c) v)(g:Chg o 6 bs o' bs'):RowM o' bs' c f n nb cs al ps ks' vC vA vP v :=
 ⟨M.c.chg g (by decide),M.f.chg g (by decide),M.n.chg g (by decide),M.C.chg g (by decide),M.A.chg g (by decide),M.P.chg g (by decide),h⟩
theorem RowM.chg9 (M:RowM o bs c f n nb cs al ps ks vC vA vP vK)(g:Chg o 99 bs o' bs'):RowM o' bs' c f n nb cs al ps ks vC vA vP vK :=
 ⟨M.c.chg g (by decide),M.f.chg g (by decide),M.n.chg g (by decide),M.C.chg g (by decide),M.A.chg g (by decide),M.P.chg g (by decide),M.K.chg g (by decide)⟩
theorem RowM.lay9 (M:RowM o bs c f n nb cs al ps ks vC vA vP vK)(ys:List Blk):∃ o',RowM o' (bs++ys) c f n nb cs al ps ks vC vA vP vK/\∀ b,bs.length<=b->o' b=9:=by
 have g:=λk=>Chg.lay o 9 k bs ys;exact ⟨_,⟨M.c.chg (g 9) (by decide),M.f.chg (g 9) (by decide),M.n.chg (g 9) (by decide),M.C.chg (g 9) (by decide),M.A.chg (g 9) (by decide),M.P.chg (g 9) (by decide),M.K.chg (g 9) (by decide)⟩,λb hb=>if_neg (by omega)⟩
theorem RowM.lay (M:RowM o bs c f n nb cs al ps ks vC vA vP vK)(ys:List Blk):∃ o',RowM o' (bs++ys) c f n nb cs al ps ks vC vA vP vK :=
 let ⟨o',h,_⟩:=M.lay9 ys
 ⟨o',h⟩
theorem RowM.setc (M:RowM o bs c f n nb cs al ps ks vC vA vP vK)(c':Cfg):RowM o (bs.set 0 (.cells (c'.c.map .d))) c' f n nb cs al ps ks vC vA vP vK:=M.chgc ⟨M.c.1,mi M.c.2⟩ (Chg.set M.c.1 _)
theorem RowM.setf (M:RowM o bs c f n nb cs al ps ks vC vA vP vK)(f':Fd):RowM o (bs.set 1 (.cells (f'.c.map .d))) c f' n nb cs al ps ks vC vA vP vK:=M.chgf ⟨M.f.1,mi M.f.2⟩ (Chg.set M.f.1 _)
theorem RowM.setn (M:RowM o bs c f n nb cs al ps ks vC vA vP vK)(n':Nde):RowM o (bs.set nb (.cells (n'.c.map .d))) c f n' nb cs al ps ks vC vA vP vK:=M.chgn ⟨M.n.1,mi M.n.2⟩ (Chg.set M.n.1 _)
theorem RowM.newn (M:RowM o bs c f n nb cs al ps ks vC vA vP vK)(n':Nde):∃ o',RowM o' (bs++[.cells (n'.c.map .d)]) c f n' bs.length cs al ps ks vC vA vP vK :=
 ⟨_,M.chgn ⟨if_neg (by omega),by simp⟩ (Chg.lay o 2 2 bs [.cells (n'.c.map .d)])⟩
end
theorem lQ (a:Int):∃ k:Nat,bR .and (.d (i64 a)) (.d (.int .i64 65535))=some (i64 k):=by
 refine ⟨(BitVec.ofInt 64 a &&& BitVec.ofInt 64 65535).toNat,?_⟩;have h:(BitVec.ofInt 64 a &&& BitVec.ofInt 64 65535).toNat<=65535:=by
  rw [BitVec.toNat_and];exact ch Nat.and_le_right (by decide)
 have hw:wrap .i64 ((BitVec.ofInt 64 a &&& BitVec.ofInt 64 65535).toNat:Int)=((BitVec.ofInt 64 a &&& BitVec.ofInt 64 65535).toNat:Int):=by
  generalize (BitVec.ofInt 64 a &&& BitVec.ofInt 64 65535).toNat=k at h;simp [wrap,IntKind.bits,IntKind.signed]; omega
 show eZ .and .i64 a 65535=_;show some (D.int .i64 (wrap .i64 ((BitVec.ofInt 64 a &&& BitVec.ofInt 64 65535).toNat:Int)))=_;rw [hw]
theorem XK (a:Int):∃ k:Int,bR .and (.d (i64 a)) (.d (.int .i64 7))=some (i64 k):=⟨_,rfl⟩
theorem RAt.frz {o:Nat->Nat}{k z:Nat}{bs:List Blk}{es:List (List D)}{v:V}(h:RAt o k bs z es v)(h0:es≠[])(lo:Nat):frz ⟨bs,lo⟩ v=some (.d (.slice false es)):=by
 obtain ⟨h1,_⟩ | ⟨b,cap,h1,rfl,_⟩:=h.2
 . exact absurd h1 h0
 . have:=bB (h:=⟨bs,lo⟩) (k:=7) (b:=b) (n:=es.length) (cap:=cap) (rest:=[]) h.1 rfl (by simpa using h1.2);simp only [Fp,this]
theorem Mj {E:Calls'}{T:FuncId->Option QF}{val:FuncId->Bool}{f:FuncId}{q:QF}(ht:T f=some q)(hv:val f=true){as2 args:List V}{b:Bool}(h0:∀ h,Sm E T val f as2 h=some (bl b,h)){h:Hp}(ha:args.mapM (frz h)=some as2)(hd:as2.mapM (frz h)=some as2):Sm E T val f args h=some (bl b,h):=by
 have h1:=h0 h;rw [aN ht hv] at h1 ⊢;rw [hd] at h1;rw [ha];simp only [xI,Ep] at h1 ⊢;cases hB:Bd E T val q as2 ⟨[],0⟩ with
 | none=>rw [hB] at h1; cases h1
 | some p =>
  obtain ⟨r,h'⟩:=p;rw [hB] at h1;simp only [IX] at h1 ⊢;cases hr:Go.Proofs.YtjeflmaikicdnaaGreat.frz h' r with
  | none=>rw [hr] at h1; cases h1
  | some r' =>
   rw [hr] at h1;have e1:r'=bl b:=by
    simp at h1; exact h1.2
   subst e1;have:=Be hr;subst this;simp [qh,xc,rZ]
section
variable {E:Calls'}(H:RowH E)
def iT (L:Int)(l:Sl Evt)(nb:Nat)(vC vA:V)(now:Int)(vP vK:V)(i:Nat):EA:=[(1,.d (u64 L)),(2,.d (l.d Evt.c)),(3,.ptr 0 0),(7,.ptr 1 0),(9,.ptr nb 0),(10,vC),(11,vA),(12,.d (u64 now)),(13,vP),(14,vK),(15,.d (i64 i))]
def kE (L:Int)(l:Sl Evt)(nb:Nat)(vC vA:V)(now:Int)(vP vK:V)(i:Nat)(ls:List Psh)(was:Int)(k:Nat):EA:=[(1,.d (u64 L)),(2,.d (l.d Evt.c)),(3,.ptr 0 0),(7,.ptr 1 0),(9,.ptr nb 0),(10,vC),(11,vA),(12,.d (u64 now)),(13,vP),(14,vK),(15,.d (i64 i)),(17,.d (fG ls)),(19,.d (u64 was)),(25,.d (i64 k))]
def JR (L:Int)(l:Sl Evt)(nb:Nat)(vC vA:V)(now:Int)(vP vK:V)(i:Nat)(ls:List Psh)(was:Int):EA:=[(1,.d (u64 L)),(2,.d (l.d Evt.c)),(3,.ptr 0 0),(7,.ptr 1 0),(9,.ptr nb 0),(10,vC),(11,vA),(12,.d (u64 now)),(13,vP),(14,vK),(15,.d (i64 i)),(17,.d (fG ls)),(19,.d (u64 was))]
variable {L:Int}{l:Sl Evt}{nb:Nat}{vC vA:V}{now:Int}{vP vK:V}{i:Nat}{ls:List Psh}{was:Int}
theorem WJ {bs:List Blk}{f:Fd}(hf:au bs 1=some (f.c.map .d))(ho:OutI L f ls)(lo:Nat) :
 Cd E dM aW (.loop [1,2,3,7,9,10,11,12,13,14,15,17,19,25] qW) (kE L l nb vC vA now vP vK i ls was 0) ⟨bs,lo⟩=some (.exit 3,JR L l nb vC vA now vP vK i ls was,⟨bs,lo⟩):=by
 have key:=Kr (E:=E) (T:=dM) (val:=aW) (keep:=[1,2,3,7,9,10,11,12,13,14,15,17,19,25]) (body:=qW) ls (λ_=>true) (λk=>kE L l nb vC vA now vP vK i ls was k) ⟨bs,lo⟩ (.ret,[(6,bl false)],⟨bs,lo⟩) (.exit 3,JR L l nb vC vA now vP vK i ls was,⟨bs,lo⟩) (λk p hp hk W=>?_) (λW=>?_)
 . have ht:(ls.all λ_=>true)=true:=cm.2 λ_ _=>rfl;rw [ht] at key;simpa using key
 . obtain ⟨h1,h2,h3,h4,h5⟩:=ho.2 p (List.mem_of_getElem? hp);have hx:∀ h,iL none 14 (.d (fG ls)) (.d (.int .i64 k)) h=some (.eptr p.c 0,h):=λh=>bv (z:=14) h (s:=(⟨ls.isEmpty,ls⟩:Sl Psh)) hp (cells:=Psh.c) rfl;have hlen:∀ h,mo false (.d (fG ls)) h=some (.d (i64 ls.length),h):=λh=>by simp [fG,Sl.d,mo,V.len]
   have hlt:((k:Int)<ls.length):=by omega
   have hw:=aI hk (by have:=ho.1; omega);have hge:¬ p.upon>=p.seq:=by omega
   have h2':¬ f.seq<=f.upon:=by omega
   simp +decide [kE,qW,hx,hlen,hlt,hw,nD,qK,qL,vE,h1,h3,h4,h5,h2',hf,ai]
 . have hlen:∀ h,mo false (.d (fG ls)) h=some (.d (i64 ls.length),h):=λh=>by simp [fG,Sl.d,mo,V.len]
   simp [kE,JR,qW,hlen,ai]
include H in
theorem WL {o:Nat->Nat}{bs:List Blk}{c:Cfg}{f:Fd}{n:Nde}{cs:List Cfg}{al:List (Sl Int)}{ps:List Psh}{ks:List Ack}{H':Int->Vw}(M:RowM o bs c f n nb cs al ps ks vC vA vP vK)(I:RowI c cs al L f n (ps++ls) H')(ho:OutI L f ls)(hw:was<=n.v.epoch)(hps:ps.length+ls.length<=300)(hc:cs.length<=1000)(ha:al.length<=1000)(hi:i<1000)(lo:Nat) :
 ∃ o' bs' lo' vP',RowM o' bs' c f n nb cs al (ps++ls) ks vC vA vP' vK/\∀ W,iw [1,2,3,7,9,10,11,12,13,14,15] W (uP E dM aW xw (leave 1 (uP E dM aW xu (leave 3 (Cd E dM aW (.loop [1,2,3,7,9,10,11,12,13,14,15,17,19,25] qW) (kE L l nb vC vA now vP vK i ls was 0) ⟨bs,lo⟩)))))=W (iT L l nb vC vA now vP' vK (i+1)) ⟨bs',lo'⟩:=by
 have hrc:∀ lo,aB ⟨bs,lo⟩ (.d (fG ls)) 14=some ((ls.map Psh.c).length,flat (ls.map Psh.c)):=λlo=>by
  have hall:((ls.map Psh.c).all λe=>e.length==14)=true:=cm.2 λx hx=>by
   obtain ⟨y,_,rfl⟩:=cd.1 hx; rfl
  simp only [aB,fG,Sl.d,hall,if_true,flat]
 obtain ⟨vP',bs',o',F,a1,a2,a3⟩:=M.P.app (by_:=256) (by decide) (by decide) (show (ps.map Psh.c).length+(ls.map Psh.c).length<=big by have:big=2 ^ 30:=rfl; simp; omega) (λe he=>by obtain ⟨y,_,rfl⟩:=cd.1 he; rfl) hrc;rw [← List.map_append] at a2;have M':=M.chgP a2 a3;refine ⟨o',bs',F lo,vP',M',λW=>?_⟩;rw [WJ M.f.2 ho lo];have nP:=M.P.nu; have nP':=M'.P.nu; have nC:=M.C.nu; have nA:=M.A.nu; have nK:=M.K.nu;have oC:=M'.C.ok; have oA:=M'.A.ok;have lP:=M'.P.len;have hlen:∀ h,mo false (.d (fG ls)) h=some (.d (i64 ls.length),h):=λh=>by simp [fG,Sl.d,mo,V.len]
 have k1:¬ (ls.length:Int)>1:=by have:=ho.1; omega
 have k2:¬ (300<(ps.length:Int)+ls.length):=by omega
 have k3:¬ n.v.epoch<was:=by omega
 have gn:=M'.n.2;have s9:sub n.c 9 1=some [.bool n.whole]:=rfl;have s3:sub n.c 3 1=some [u64 n.v.epoch]:=rfl;have s6:sub n.c 3 6=some n.v.c:=rfl;have hwn:wrap .i64 ((i:Int)+1)=((i+1:Nat):Int):=aI (n:=1000) hi (by decide);cases hwh:n.whole with
 | false =>
  rw [hwh] at s9;simp +decide [JR,iT,xu,xw,a1,nP,nP',nC,nA,nK,lP,hlen,k1,k2,k3,gn,s9,s3,hwn,aT,ai]
 | true =>
  have hx:=I.there hwh;have c0:cs.map Cfg.c≠[]:=λhh=>by
   have:=I.cur;rw [List.map_eq_nil_iff.1 hh] at this; cases this
  have a0:al.map adC≠[]:=λhh=>by
   have:=I.addrs;rw [List.map_eq_nil_iff.1 hh] at this; cases this
  have n18:∀ lo,Sm E dM aW 18 [ag n.v.c,vC,vA] ⟨bs',lo⟩=some (bl true,⟨bs',lo⟩):=λlo =>
   Mj Yv Yw (as2:=[n.v.v,.d ((⟨false,cs⟩:Sl Cfg).d Cfg.c),.d ((⟨false,al⟩:Sl (Sl Int)).d adC)]) (MR H I.vok.1 (cs:=⟨false,cs⟩) (show cs.length<2 ^ 62 by omega) (λd hd=>(I.cok d hd).1) (al:=⟨false,al⟩) (show al.length<2 ^ 62 by omega) I.aok hx) (by
    have f1:=M'.C.frz c0 lo;have f2:=M'.A.frz a0 lo;have f0:Go.Proofs.YtjeflmaikicdnaaGreat.frz ⟨bs',lo⟩ (ag n.v.c)=some (ag n.v.c):=Dr;simp only [List.mapM_cons,List.mapM_nil,f0,f1,f2,Option.pure_def,Option.bind_eq_bind,Option.bind_some];rfl) (by simp [Sl.d])
  rw [hwh] at s9;simp +decide [JR,iT,xu,xw,a1,nP,nP',nC,nA,nK,lP,hlen,k1,k2,k3,gn,s9,s3,s6,n18,oC,oA,qZ,hwn,aT,ai]
end
end
