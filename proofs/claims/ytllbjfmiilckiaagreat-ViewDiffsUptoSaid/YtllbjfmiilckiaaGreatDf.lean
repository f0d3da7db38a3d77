/- The document's Diff of views, by value. -/
import Derived.Test.YtllbjfmiilckiaaGreatEg
set_option maxHeartbeats 2000000
set_option maxRecDepth 100000
set_option maxHeartbeats 2000000
set_option linter.unusedVariables false
set_option linter.unusedSimpArgs false
namespace Go.Proofs.YtllbjfmiilckiaaGreat
open IntKind (wrap)
section
variable {E:Calls'}
def jS (s t:List Int):List Int:=s.filter λx=>!bu t x
def gT (a b:Vw):Dlt:=⟨b.epoch,⟨false,b.covers.l⟩,bn (b.pods.l.filter (bT Pod.uid Pod.eqB a.pods.l)),bn (b.services.l.filter (bT Svc.id Svc.eqB a.services.l)),bn (b.bound.l.filter (bT Way.id Way.eqB a.bound.l)),bn ((b.policies.l.filter (kP a.policies.l)).map Pol.cp),bn (jS (a.pods.l.map Pod.uid) (b.pods.l.map Pod.uid)),bn (jS (a.services.l.map Svc.id) (b.services.l.map Svc.id)),bn (jS (a.bound.l.map Way.id) (b.bound.l.map Way.id)),bn (jS (a.policies.l.map Pol.id) (b.policies.l.map Pol.id))⟩
theorem MkF.cl {Q z:Nat}{bs0 bs:List Blk}{F:V->List V}{es:List (List D)}{v:V}(h:MkF Q bs0 F z es bs v):v.cells=some [v]:=by
 obtain ⟨L,M,_,_,h⟩:=h.row; exact h.cl
def dlt0:Dlt:=⟨0,⟨true,[]⟩,⟨true,[]⟩,⟨true,[]⟩,⟨true,[]⟩,⟨true,[]⟩,⟨true,[]⟩,⟨true,[]⟩,⟨true,[]⟩,⟨true,[]⟩⟩
section
variable (H:DocDiffE E)
include H
theorem QB {s0 s1 s2 s3 t0 t1 t2 t3:Sl Int}(h0:short t0)(h1:short t1)(h2:short t2)(h3:short t3)(l0:s0.l.length<big)(l1:s1.l.length<big)(l2:s2.l.length<big)(l3:s3.l.length<big){A B G Q:Nat}{m:List Blk}(gA:ah m A=some [.d (s0.d ak),.d (s1.d ak),.d (s2.d ak),.d (s3.d ak)])(gB:ah m B=some [.d (t0.d ak),.d (t1.d ak),.d (t2.d ak),.d (t3.d ak)])(hA:A≠G)(hB:B≠G)(hD:ah m G=some [.d (.slice true []),.d (.slice true []),.d (.slice true []),.d (.slice true [])])(lo:Nat) :
 ∃ m' lo' g0 g1 g2 g3,Cd E TDd bR (.loop [4,6,16,17,18,19] lh) [(4,.ptr 2 0),(6,.ptr Q 0),(16,.ptr A 0),(17,.ptr B 0),(18,.ptr G 0),(19,.d (.int .i64 0))] ⟨m,lo⟩=some (.exit 10,[(4,.ptr 2 0),(6,.ptr Q 0),(18,.ptr G 0)],⟨m',lo'⟩)/\(∀ x,x<m.length->x≠G->m'[x]?=m[x]?)/\m.length<=m'.length/\ah m' G=some [g0,g1,g2,g3] ∧
  (nu g0=some g0/\nu g1=some g1/\nu g2=some g2/\nu g3=some g3)/\(g0.cells=some [g0]/\g1.cells=some [g1]/\g2.cells=some [g2]/\g3.cells=some [g3]) ∧
  ∀ bs2 lo2,(∀ x,G<x->x<m'.length->bs2[x]?=m'[x]?)->dataV ⟨bs2,lo2⟩ 8 g0=some ((bn (jS s0.l t0.l)).d ak)/\dataV ⟨bs2,lo2⟩ 8 g1=some ((bn (jS s1.l t1.l)).d ak)/\dataV ⟨bs2,lo2⟩ 8 g2=some ((bn (jS s2.l t2.l)).d ak)/\dataV ⟨bs2,lo2⟩ 8 g3=some ((bn (jS s3.l t3.l)).d ak):=by
 obtain ⟨m1,lo1,g0,c1,K1⟩:=Mf H (Q:=Q) h0 l0 gA gB hA hB hD lo;obtain ⟨m2,lo2,g1,c2,K2⟩:=Mg H (Q:=Q) h1 l1 (K1.get hA gA) (K1.get hB gB) hA hB K1.atD lo1;obtain ⟨m3,lo3,g2,c3,K3⟩:=Mh H (Q:=Q) h2 l2 (K2.get hA (K1.get hA gA)) (K2.get hB (K1.get hB gB)) hA hB K2.atD lo2;obtain ⟨m4,lo4,g3,c4,K4⟩:=Mi H (Q:=Q) h3 l3 (K3.get hA (K2.get hA (K1.get hA gA))) (K3.get hB (K2.get hB (K1.get hB gB))) hA hB K3.atD lo3;have e1:=K1.len;have e2:=K2.len;have e3:=K3.len;have e4:=K4.len;have b3:∀ y,y<m3.length->y≠G->m4[y]?=m3[y]?:=K4.old;have b2:∀ y,y<m2.length->y≠G->m4[y]?=m2[y]?:=λy hy hn=>(b3 y (by omega) hn).trans (K3.old y hy hn);have b1:∀ y,y<m1.length->y≠G->m4[y]?=m1[y]?:=λy hy hn=>(b2 y (by omega) hn).trans (K2.old y hy hn);have ez:((0:Nat):Int)=0:=rfl;rw [ez] at c1 c2 c3 c4;refine ⟨m4,lo4,g0,g1,g2,g3,?_,λx hx hn=>(b1 x (by omega) hn).trans (K1.old x hx hn),by omega,K4.atD,⟨K1.nu,K2.nu,K3.nu,K4.nu⟩,⟨K1.cl,K2.cl,K3.cl,K4.cl⟩,λbs2 lo2 ho=>⟨?_,?_,?_,?_⟩⟩
 . have keyW:=aC (E:=E) (T:=TDd) (val:=bR) [4,6,16,17,18,19] lh;generalize Cd E TDd bR (.loop [4,6,16,17,18,19] lh)=W at keyW ⊢;have w1:wrap .i64 1=1:=by decide
   have w2:wrap .i64 2=2:=by decide
   have w3:wrap .i64 3=3:=by decide
   have w4:wrap .i64 4=4:=by decide
   rw [keyW];simp +decide [lh];rw [au];simp +decide [c1,w1,w2,w3,w4];rw [keyW];simp +decide [lh];rw [au];simp +decide [c2,w1,w2,w3,w4];rw [keyW];simp +decide [lh];rw [au];simp +decide [c3,w1,w2,w3,w4];rw [keyW];simp +decide [lh];rw [au];simp +decide [c4,w1,w2,w3,w4];rw [keyW];simp +decide [lh]
 . rw [K1.datL (λy q1 q2=>by rw [ho y q1 (by omega),b1 y q2 (by omega)]) lo2]; simp [Sl.d,bn,jS]
 . rw [K2.datL (λy q1 q2=>by rw [ho y q1 (by omega),b2 y q2 (by omega)]) lo2]; simp [Sl.d,bn,jS]
 . rw [K3.datL (λy q1 q2=>by rw [ho y q1 (by omega),b3 y q2 (by omega)]) lo2]; simp [Sl.d,bn,jS]
 . rw [K4.datL (λy q1 q2=>by rw [ho y q1 (by omega)]) lo2]; simp [Sl.d,bn,jS]
theorem ZV {a b:Vw}(ha:a.ok)(hwa:∀ p∈a.policies.l,p.wf big)(hb:b.ok)(hwb:∀ p∈b.policies.l,p.wf big)(hno:(aT a&&aT b)=false)(h:Hp):Sm E TDd bR 17 [a.v,b.v] h=some (.tup [ag dlt0.c,.d (i64 1)],h):=by
 have n1:=λh=>(aO (E:=E) (T:=TDd) (val:=bR) (f:=9) (by kernel_rfl)).trans (H.h178 a ha hwa h);have n2:=λh=>(aO (E:=E) (T:=TDd) (val:=bR) (f:=9) (by kernel_rfl)).trans (H.h178 b hb hwb h);rw [aY Rx Tm];cases h1:aT a with
 | false=>simp [ae,r67,n1,h1,aA,aa,aM,aF,Tr.mute,aj]; rfl
 | true =>
  have h2:aT b=false:=by simpa [h1] using hno
  simp [ae,r67,n1,n2,h1,h2,aA,aa,aM,aF,Tr.mute,aj]; rfl
theorem S67 {a b:Vw}(ha:a.ok)(hwa:∀ p∈a.policies.l,p.wf big)(hb:b.ok)(hwb:∀ p∈b.policies.l,p.wf big)(m1:aT a=true)(m2:aT b=true)(h:Hp):Sm E TDd bR 17 [a.v,b.v] h=some (.tup [ag (gT a b).c,.d (i64 0)],h):=by
 have n1:=λh=>(aO (E:=E) (T:=TDd) (val:=bR) (f:=9) (by kernel_rfl)).trans (H.h178 a ha hwa h);have n2:=λh=>(aO (E:=E) (T:=TDd) (val:=bR) (f:=9) (by kernel_rfl)).trans (H.h178 b hb hwb h);obtain ⟨r1,r2,r3,r4⟩:=iO m1;obtain ⟨s1,s2,s3,s4⟩:=iO m2;have a1:=aL r1; have a2:=aL r2; have a3:=aL r3; have a4:=aL r4;have b1:=aL s1; have b2:=aL s2; have b3:=aL s3; have b4:=aL s4;have hbig:(64:Nat)<big:=by decide
 have n180a:=λh=>(aO (E:=E) (T:=TDd) (val:=bR) (f:=45) (by kernel_rfl)).trans (H.h180 a (by omega) (by omega) (by omega) (by omega) h);have n180b:=λh=>(aO (E:=E) (T:=TDd) (val:=bR) (f:=45) (by kernel_rfl)).trans (H.h180 b (by omega) (by omega) (by omega) (by omega) h);obtain ⟨x,bs,ap,l,k,r,u⟩:=Dn (cells:=bP) (z:=1) (by_:=4) (s:=b.covers) (λ_=>rfl) (by decide) (by decide) hb.1 [.cells (a.c.map .d),.cells (b.c.map .d),.cells [.d (.int .u64 0),.d (.slice true []),.d (.slice true []),.d (.slice true []),.d (.slice true []),.d (.slice true []),.d (.slice true []),.d (.slice true []),.d (.slice true []),.d (.slice true [])]];have hx:x≠.d (.slice true []):=by rintro rfl; exact absurd (u 0 (by simp)) (by simp [V.under])
 have g0:ah bs 0=some (a.c.map .d):=by unfold ah; rw [k 0 (by simp)]; rfl
 have g1:ah bs 1=some (b.c.map .d):=by unfold ah; rw [k 1 (by simp)]; rfl
 have g2:ah bs 2=some [.d (.int .u64 0),.d (.slice true []),.d (.slice true []),.d (.slice true []),.d (.slice true []),.d (.slice true []),.d (.slice true []),.d (.slice true []),.d (.slice true []),.d (.slice true [])]:=by unfold ah; rw [k 2 (by simp)]; rfl
 have h3:3<=bs.length:=by simpa using l
 have h4:3<bs.length:=by
  obtain ⟨_,rfl⟩ | ⟨b,cap,r1,r2,_⟩:=r.2
  . exact absurd rfl hx
  . simp at r1; omega
 have hne:¬ bs=[]:=by rintro rfl; simp at h4
 have i0:ah (bs++[.cells (dcV b.epoch x ai ai ai ai ai ai ai ai)]) 0=_:=aJ g0;have i1:ah (bs++[.cells (dcV b.epoch x ai ai ai ai ai ai ai ai)]) 1=_:=aJ g1;have i2:ah (bs++[.cells (dcV b.epoch x ai ai ai ai ai ai ai ai)]) 2=_:=aJ g2;have iQ:ah (bs++[.cells (dcV b.epoch x ai ai ai ai ai ai ai ai)]) bs.length=some (dcV b.epoch x ai ai ai ai ai ai ai ai):=by rw [eF]; rfl
 obtain ⟨x2,lo2,w2,c2,K2⟩:=Qx H (b:=b) (ep:=b.epoch) (x1:=x) ha (by omega) i0 i1 (by omega) iQ 0;obtain ⟨x3,lo3,w3,c3,K3⟩:=Qy H (b:=b) (ep:=b.epoch) (x1:=x) (x2:=w2) ha (by omega) (K2.get (by omega) i0) (K2.get (by omega) i1) (by omega) K2.atD lo2;obtain ⟨x4,lo4,w4,c4,K4⟩:=Qz H (b:=b) (ep:=b.epoch) (x1:=x) (x2:=w2) (x3:=w3) ha (by omega) (K3.get (by omega) (K2.get (by omega) i0)) (K3.get (by omega) (K2.get (by omega) i1)) (by omega) K3.atD lo3;obtain ⟨x5,lo5,w5,c5,K5⟩:=QA H (b:=b) (ep:=b.epoch) (x1:=x) (x2:=w2) (x3:=w3) (x4:=w4) ha hwb (by omega) (K4.get (by omega) (K3.get (by omega) (K2.get (by omega) i0))) (K4.get (by omega) (K3.get (by omega) (K2.get (by omega) i1))) (by omega) K4.atD lo4;have f0:=K5.get (by omega) (K4.get (by omega) (K3.get (by omega) (K2.get (by omega) i0)));have f1:=K5.get (by omega) (K4.get (by omega) (K3.get (by omega) (K2.get (by omega) i1)));have f2:=K5.get (by omega) (K4.get (by omega) (K3.get (by omega) (K2.get (by omega) i2)));have d5:=K5.atD;have e2:=K2.len;have e3:=K3.len;have e4:=K4.len;have e5:=K5.len;have bl2:bs.length+1<=x2.length:=by simpa using e2
 have sh:∀ {α:Type} (l:List α) (f:α->Int),l.length<=big->short (bn (l.map f)):=λl f h=>⟨by simpa [bn] using h,λhn=>by simpa [bn] using hn⟩
 let na:List V:=[.d ((bn (a.pods.l.map Pod.uid)).d ak),.d ((bn (a.services.l.map Svc.id)).d ak),.d ((bn (a.bound.l.map Way.id)).d ak),.d ((bn (a.policies.l.map Pol.id)).d ak)]
 let nb:List V:=[.d ((bn (b.pods.l.map Pod.uid)).d ak),.d ((bn (b.services.l.map Svc.id)).d ak),.d ((bn (b.bound.l.map Way.id)).d ak),.d ((bn (b.policies.l.map Pol.id)).d ak)]
 have hna:uA a=.agg na:=rfl;have hnb:uA b=.agg nb:=rfl;rw [hna] at n180a;rw [hnb] at n180b;have lm:∀ {α:Type} (l:List α) (f:α->Int),l.length<=16->(bn (l.map f)).l.length<big:=λl f h=>by simp only [bn,b9]; omega
 obtain ⟨m6,lo6,y0,y1,y2,y3,c6,o6,l6,D6,U6,Z6,T6⟩:=QB H (A:=x5.length) (B:=x5.length+1) (G:=x5.length+2) (Q:=bs.length) (m:=x5++[.cells na,.cells nb,.cells [.d (.slice true []),.d (.slice true []),.d (.slice true []),.d (.slice true [])]]) (sh b.pods.l Pod.uid (by omega)) (sh b.services.l Svc.id (by omega)) (sh b.bound.l Way.id (by omega)) (sh b.policies.l Pol.id (by omega)) (lm a.pods.l Pod.uid (by omega)) (lm a.services.l Svc.id (by omega)) (lm a.bound.l Way.id (by omega)) (lm a.policies.l Pol.id (by omega)) (by rw [eF]; rfl) (by rw [fu]; rfl) (by omega) (by omega) (by rw [fu]; rfl) (min lo5 x5.length);simp only [ao,ck,cm] at o6 l6;have p5:∀ y,y<x5.length->m6[y]?=x5[y]?:=λy hy=>by rw [o6 y (by omega) (by omega),am hy]
 have q2:ah m6 2=_:=aS (p5 2 (by omega)) f2;have qD:ah m6 bs.length=some (dcV b.epoch x w2 w3 w4 w5 ai ai ai ai):=aS (p5 _ (by omega)) d5;have B4:∀ y,y<x4.length->y≠bs.length->x5[y]?=x4[y]?:=K5.old;have B3:∀ y,y<x3.length->y≠bs.length->x5[y]?=x3[y]?:=λy hy hn=>(B4 y (by omega) hn).trans (K4.old y hy hn);have B2:∀ y,y<x2.length->y≠bs.length->x5[y]?=x2[y]?:=λy hy hn=>(B3 y (by omega) hn).trans (K3.old y hy hn);have B1:∀ y,y<bs.length->x5[y]?=bs[y]?:=λy hy=>by rw [B2 y (by omega) (by omega),K2.old y (by simp; omega) (by omega),am hy]
 have hcv:∀ (m:List Blk) (lo:Nat),(∀ y,y≠2->y≠bs.length->m[y]?=m6[y]?)->bG ⟨m,lo⟩ (dcV b.epoch x w2 w3 w4 w5 y0 y1 y2 y3)=some (gT a b).c:=λm lo ho=>by
  have t1:dataV ⟨m,lo⟩ 8 x=_:=(r.on (bs':=m) λy h1 h2=>by simp at h1; rw [ho y (by omega) (by omega),p5 y (by omega),B1 y h2]).datN hx lo 7;have t2:dataV ⟨m,lo⟩ 8 w2=_:=K2.datL (λy h1 h2=>by rw [ho y (by omega) (by omega),p5 y (by omega),B2 y h2 (by omega)]) lo;have t3:dataV ⟨m,lo⟩ 8 w3=_:=K3.datL (λy h1 h2=>by rw [ho y (by omega) (by omega),p5 y (by omega),B3 y h2 (by omega)]) lo;have t4:dataV ⟨m,lo⟩ 8 w4=_:=K4.datL (λy h1 h2=>by rw [ho y (by omega) (by omega),p5 y (by omega),B4 y h2 (by omega)]) lo;have t5:dataV ⟨m,lo⟩ 8 w5=_:=K5.datL (λy h1 h2=>by rw [ho y (by omega) (by omega),p5 y h2]) lo;obtain ⟨t6,t7,t8,t9⟩:=T6 m lo λy h1 h2=>ho y (by omega) (by omega);simp only [dcV,bG,List.mapM_cons,List.mapM_nil,t1,t2,t3,t4,t5,t6,t7,t8,t9];simp [gT,Dlt.c,Sl.d,bn]
 have ez:((0:Nat):Int)=0:=rfl;rw [ez] at c2 c3 c4 c5;have rc:=r.cl;have rn:=r.nu;have pz4:∀ c:List V,c.length=4->put [V.d (.slice true []),.d (.slice true []),.d (.slice true []),.d (.slice true [])] 0 c=some c:=λc hc=>by
  match c,hc with
  | [_,_,_,_],_=>rfl
 have pa:=pz4 na rfl;have pb:=pz4 nb rfl;have la:na.length=4:=rfl;have lb:nb.length=4:=rfl;obtain ⟨U0,U1,U2,U3⟩:=U6;obtain ⟨Z0,Z1,Z2,Z3⟩:=Z6;rw [aY Rx Tm];generalize na=na at *;generalize nb=nb at *;simp at ap;simp only [dcV] at c2 d5 qD;simp [ae,r67,n1,n2,m1,m2,ap,g0,g1,g2,rc,rn,aN,hne,h4,show 1<bs.length from by omega,aA,aa,aM,aF,aG,Tr.mute,Tr.spares,List.range,List.range.loop,aj];rw [au];simp [c2];rw [au];simp [c3];rw [au];simp [c4];rw [au];have h15:1<x5.length:=by omega
 have hx5:¬ x5=[]:=by rintro rfl; simp at h15
 simp [c5,f0,f1,n180a,n180b,pa,pb,la,lb,hx5,h15,aN,aA,aa,aM,aF,aG,Tr.mute,Tr.spares,List.range,List.range.loop,aj];rw [au];have hix0:∀ P hp,bg (some 4) 1 (.ptr P 0) (.d (.int .i64 0)) hp=some (.ptr P 0,hp):=λP hp=>by simp +decide [bg]
 have hix1:∀ P hp,bg (some 4) 1 (.ptr P 0) (.d (.int .i64 1)) hp=some (.ptr P 1,hp):=λP hp=>by simp +decide [bg]
 have hix2:∀ P hp,bg (some 4) 1 (.ptr P 0) (.d (.int .i64 2)) hp=some (.ptr P 2,hp):=λP hp=>by simp +decide [bg]
 have hix3:∀ P hp,bg (some 4) 1 (.ptr P 0) (.d (.int .i64 3)) hp=some (.ptr P 3,hp):=λP hp=>by simp +decide [bg]
 have sQ:∀ X,ah (m6.set bs.length (.cells X)) bs.length=some X:=λX=>aU qD;have s2':∀ X,ah (m6.set bs.length (.cells X)) 2=_:=λX=>(eQ (by omega)).trans q2;have s22:∀ X Y,ah ((m6.set bs.length (.cells X)).set 2 (.cells Y)) 2=some Y:=λX Y=>aU (s2' X);have hcs:∀ X Y lo,bG ⟨(m6.set bs.length (.cells X)).set 2 (.cells Y),lo⟩ (dcV b.epoch x w2 w3 w4 w5 y0 y1 y2 y3)=some (gT a b).c:=λX Y lo=>hcv _ lo λy h1 h2=>by rw [ac (Ne.symm h1),ac (Ne.symm h2)]
 simp only [dcV] at hcs;have hxb:¬ x5.length+2=bs.length:=by omega
 simp [hxb,c6,D6,qD,q2,hix0,hix1,hix2,hix3,sQ,s2',s22,U0,U1,U2,U3,Z0,Z1,Z2,Z3,aN,aA,aa,aM,aF,aG,Tr.mute,Tr.spares,List.range,List.range.loop,aj];have hD:(gT a b).c=u64 b.epoch::(gT a b).c.tail:=rfl;have hct:∀ X Y lo,bG ⟨(m6.set bs.length (.cells X)).set 2 (.cells Y),lo⟩ [x,w2,w3,w4,w5,y0,y1,y2,y3]=some (gT a b).c.tail:=λX Y lo=>by
  have:=hcs X Y lo;rw [hD] at this;simpa using this
 simp [hct];rw [← hD]
end
end
section
variable {E:Calls'}
def um (g N:List Int):Bool:=aZ g&&!g.any (bu N)
theorem wK {bs:List Blk}{c2 c3:List V}(g2:ah bs 2=some c2)(g3:ah bs 3=some c3){k kk:Nat}{G N:Sl Int}(hG:short G)(hN:short N)(hix:∀ b hp,bg (some 4) 1 (.ptr b 0) (.d (i64 k)) hp=some (.ptr b kk,hp))(s2:sub c2 kk 1=some [.d (N.d ak)])(s3:sub c3 kk 1=some [.d (G.d ak)])(lo:Nat) :
 Cd E TDp bB (.loop [1,3,4,5,6,7] mM) [(1,.ptr 0 0),(3,.ptr 1 0),(4,.ptr 2 0),(5,.ptr 3 0),(6,.d (i64 k)),(7,.d (i64 ((0:Nat):Int)))] ⟨bs,lo⟩=some (cond (um G.l N.l) (.exit 2,[(1,.ptr 0 0),(3,.ptr 1 0),(4,.ptr 2 0),(5,.ptr 3 0),(6,.d (i64 k))],⟨bs,lo⟩) (.ret,[(2,bl false)],⟨bs,lo⟩)):=by
 have hl:=hG.lt;have hq:um G.l N.l=fE (λi x=>cu id G.l i x&&!bu N.l x) 0 G.l:=by
  rw [yD,List.map_id]; rfl
 rw [hq];refine kC (E:=E) (T:=TDp) (val:=bB) G.l _ (λi=>[(1,.ptr 0 0),(3,.ptr 1 0),(4,.ptr 2 0),(5,.ptr 3 0),(6,.d (i64 k)),(7,.d (i64 i))]) _ _ _ (λi x hx hi W=>?_) (λW=>?_)
 . have hn:=λh=>av (z:=1) h hx (cells:=ak) rfl;have hw:=ay hi hl;have h0:((i:Int)<G.l.length):=by omega
   have n1:=λh=>u7 (E:=E) hN x h;by_cases a0:(i:Int)>0
   case pos =>
    have a0n:(0<i)=True:=by simp; omega
    obtain ⟨y,j,hij,hy,hj⟩:=pI hl hi a0;have hp:=λh=>av (z:=1) h hy (cells:=ak) rfl;have hk:cu id G.l i x=decide (y<x):=by subst hij; simp only [cu,hy,id]
    by_cases a01:x<=y
    case pos=>simp +decide [mM,g2,g3,s2,s3,hix,hn,h0,ak,aA,aa,aM,aF,Tr.mute,aj,a0,a0n,hj,hp,hk,a01,show ¬ (y<x) from by omega]
    cases c1:bu N.l x<;>rw [c1] at n1<;>simp +decide [mM,g2,g3,s2,s3,hix,hn,h0,n1,ak,aA,aa,aM,aF,Tr.mute,aj,a0,a0n,hj,hp,hk,a01,show (y<x) from by omega,hw,c1]
   have hk:cu id G.l i x=true:=kE a0;have a0n:(0<i)=False:=by simp; omega
   cases c1:bu N.l x<;>rw [c1] at n1<;>simp +decide [mM,g2,g3,s2,s3,hix,hn,h0,n1,ak,aA,aa,aM,aF,Tr.mute,aj,a0,a0n,hk,hw,c1]
 . simp [mM,g3,s3,hix]
theorem AZ {α:Type}(key:α->Int)(g:List Int)(most:Int)(l:List α):(decide ((g.length:Int)<=most)&&um g (l.map key))=ja key g most l:=by
 have h:g.any (bu (l.map key))=l.any λx=>bu g (key x):=by
  rw [Bool.eq_iff_iff,List.any_eq_true,List.any_eq_true];constructor
  . rintro ⟨n,h1,h2⟩;obtain ⟨x,hx,rfl⟩:=ce.1 (hasT_iff.1 h2);exact ⟨x,hx,hasT_iff.2 h1⟩
  . rintro ⟨x,h1,h2⟩;exact ⟨key x,hasT_iff.1 h2,hasT_iff.2 (List.mem_map_of_mem h1)⟩
 unfold um ja;rw [h];cases decide ((g.length:Int)<=most)<;>cases aZ g<;>rfl
theorem Mk (h79:∀ d:Dlt,∀ h,E 19 [d.v] h=some (d.vw.v,h))(h288:∀ p:Pol,p.wf big->∀ h,E 29 [ag p.c] h=some (bl (df p),h))(d:Dlt)(hd:d.ok)(hw:∀ p∈d.policies.l,p.wf big)(l1:d.pods.l.length<big)(l2:d.services.l.length<big)(l3:d.bound.l.length<big)(l4:d.policies.l.length<big)(h:Hp):Sm E TDp bB 13 [d.v] h=some (bl (dw d),h):=by
 obtain ⟨hv,g1,g2,g3,g4⟩:=hd;have c79:=λh=>(aO (E:=E) (T:=TDp) (val:=bB) (f:=19) (by kernel_rfl)).trans (h79 d h);have c180:=λh=>Ml (E:=E) d.vw l1 l2 l3 l4 h;have c181:=λh=>Mm (E:=E) d h;have c178:=λh=>Da (E:=E) h288 d.vw hv hw h;have nw:∀ {α:Type} (f:α->Int) (l:List α),l.length<big->short (bn (l.map f)):=λf l hl=>⟨by simp [bn]; omega,λhn=>by simpa [bn] using hn⟩;obtain ⟨c2,hc2⟩:∃ c:List V,c=[.d ((bn (d.pods.l.map Pod.uid)).d ak),.d ((bn (d.services.l.map Svc.id)).d ak),.d ((bn (d.bound.l.map Way.id)).d ak),.d ((bn (d.policies.l.map Pol.id)).d ak)]:=⟨_,rfl⟩;obtain ⟨c3,hc3⟩:∃ c:List V,c=[.d (d.gonePods.d ak),.d (d.goneServices.d ak),.d (d.goneBound.d ak),.d (d.gonePolicies.d ak)]:=⟨_,rfl⟩;have l2':c2.length=4:=by rw [hc2]; rfl
 have l3':c3.length=4:=by rw [hc3]; rfl
 have q0:=wK (E:=E) (bs:=[.cells (d.c.map .d),.cells [.d (i64 16),.d (i64 6),.d (i64 4),.d (i64 12)],.cells c2,.cells c3]) (c2:=c2) (c3:=c3) rfl rfl (k:=0) (kk:=0) g1 (nw Pod.uid d.pods.l l1) (λb hp=>rfl) (by rw [hc2]; rfl) (by rw [hc3]; rfl) 0;have q1:=wK (E:=E) (bs:=[.cells (d.c.map .d),.cells [.d (i64 16),.d (i64 6),.d (i64 4),.d (i64 12)],.cells c2,.cells c3]) (c2:=c2) (c3:=c3) rfl rfl (k:=1) (kk:=1) g2 (nw Svc.id d.services.l l2) (λb hp=>rfl) (by rw [hc2]; rfl) (by rw [hc3]; rfl) 0;have q2:=wK (E:=E) (bs:=[.cells (d.c.map .d),.cells [.d (i64 16),.d (i64 6),.d (i64 4),.d (i64 12)],.cells c2,.cells c3]) (c2:=c2) (c3:=c3) rfl rfl (k:=2) (kk:=2) g3 (nw Way.id d.bound.l l3) (λb hp=>rfl) (by rw [hc2]; rfl) (by rw [hc3]; rfl) 0;have q3:=wK (E:=E) (bs:=[.cells (d.c.map .d),.cells [.d (i64 16),.d (i64 6),.d (i64 4),.d (i64 12)],.cells c2,.cells c3]) (c2:=c2) (c3:=c3) rfl rfl (k:=3) (kk:=3) g4 (nw Pol.id d.policies.l l4) (λb hp=>rfl) (by rw [hc2]; rfl) (by rw [hc3]; rfl) 0
 have outer:=kC (E:=E) (T:=TDp) (val:=bB) (keep:=[1,3,4,5,6]) (body:=gX) [(d.gonePods.l,d.pods.l.map Pod.uid,(16:Int)),(d.goneServices.l,d.services.l.map Svc.id,6),(d.goneBound.l,d.bound.l.map Way.id,4),(d.gonePolicies.l,d.policies.l.map Pol.id,12)] (λ_ x=>decide ((x.1.length:Int)<=x.2.2)&&um x.1 x.2.1) (λi=>[(1,.ptr 0 0),(3,.ptr 1 0),(4,.ptr 2 0),(5,.ptr 3 0),(6,.d (i64 i))]) ⟨[.cells (d.c.map .d),.cells [.d (i64 16),.d (i64 6),.d (i64 4),.d (i64 12)],.cells c2,.cells c3],0⟩ (.ret,[(2,bl false)],⟨[.cells (d.c.map .d),.cells [.d (i64 16),.d (i64 6),.d (i64 4),.d (i64 12)],.cells c2,.cells c3],0⟩) (.exit 0,[(1,.ptr 0 0)],⟨[.cells (d.c.map .d),.cells [.d (i64 16),.d (i64 6),.d (i64 4),.d (i64 12)],.cells c2,.cells c3],0⟩) (λi x hx hi W=>?_) (λW=>?_)
 . have hdm:dw d=(([(d.gonePods.l,d.pods.l.map Pod.uid,(16:Int)),(d.goneServices.l,d.services.l.map Svc.id,6),(d.goneBound.l,d.bound.l.map Way.id,4),(d.gonePolicies.l,d.policies.l.map Pol.id,12)].all λx=>decide ((x.1.length:Int)<=x.2.2)&&um x.1 x.2.1)&&aT d.vw):=by
    simp only [List.all_cons,List.all_nil,Bool.and_true,AZ];rfl
   rw [sW] at outer;rw [hdm];generalize ([(d.gonePods.l,d.pods.l.map Pod.uid,(16:Int)),(d.goneServices.l,d.services.l.map Svc.id,6),(d.goneBound.l,d.bound.l.map Way.id,4),(d.gonePolicies.l,d.policies.l.map Pol.id,12)].all λx=>decide ((x.1.length:Int)<=x.2.2)&&um x.1 x.2.1)=A at *;have ez:((0:Nat):Int)=0:=rfl;rw [ez] at outer;have hn:uA d.vw=.agg c2:=by rw [hc2]; rfl
   have hg:yZ d=.agg c3:=by rw [hc3]; rfl
   rw [hn] at c180;rw [hg] at c181;rw [aY SV Td];simp [ae,Ob,c79,c180,c181,l2',l3',aN,put,aA,aa,aM,aG,Tr.spares,List.range,List.range.loop,aj];rw [au];cases A with
   | false=>simp [outer]
   | true=>simp [outer,c79,c178]
 . have hi:i=0\/i=1\/i=2\/i=3:=by simp at hi; omega
   have ez:((0:Nat):Int)=0:=rfl;rw [ez] at q0 q1 q2 q3;have i0:∀ b hp,bg (some 4) 1 (.ptr b 0) (.d (i64 0)) hp=some (.ptr b 0,hp):=λb hp=>rfl;have i1:∀ b hp,bg (some 4) 1 (.ptr b 0) (.d (i64 1)) hp=some (.ptr b 1,hp):=λb hp=>rfl;have i2:∀ b hp,bg (some 4) 1 (.ptr b 0) (.d (i64 2)) hp=some (.ptr b 2,hp):=λb hp=>rfl;have i3:∀ b hp,bg (some 4) 1 (.ptr b 0) (.d (i64 3)) hp=some (.ptr b 3,hp):=λb hp=>rfl;have s0:sub c3 0 1=some [.d (d.gonePods.d ak)]:=by rw [hc3]; rfl
   have s1:sub c3 1 1=some [.d (d.goneServices.d ak)]:=by rw [hc3]; rfl
   have s2:sub c3 2 1=some [.d (d.goneBound.d ak)]:=by rw [hc3]; rfl
   have s3:sub c3 3 1=some [.d (d.gonePolicies.d ak)]:=by rw [hc3]; rfl
   have w1:wrap .i64 1=1:=by rw [wrap64]<;>omega
   have w2:wrap .i64 2=2:=by rw [wrap64]<;>omega
   have w3:wrap .i64 3=3:=by rw [wrap64]<;>omega
   have w4:wrap .i64 4=4:=by rw [wrap64]<;>omega
   obtain rfl | rfl | rfl | rfl:=hi
   . simp at hx;subst hx;by_cases hle:(d.gonePods.l.length:Int)<=16
     . cases hg:um d.gonePods.l (d.pods.l.map Pod.uid)<;>simp [bn,hg] at q0<;>simp [gX,i0,s0,hle,show ¬ (d.gonePods.l.length:Int)>16 from by omega,hg]<;>rw [au]<;>simp [q0,w1]
     . simp [gX,i0,s0,hle,show (d.gonePods.l.length:Int)>16 from by omega]
   . simp at hx;subst hx;by_cases hle:(d.goneServices.l.length:Int)<=6
     . cases hg:um d.goneServices.l (d.services.l.map Svc.id)<;>simp [bn,hg] at q1<;>simp [gX,i1,s1,hle,show ¬ (d.goneServices.l.length:Int)>6 from by omega,hg]<;>rw [au]<;>simp [q1,w2]
     . simp [gX,i1,s1,hle,show (d.goneServices.l.length:Int)>6 from by omega]
   . simp at hx;subst hx;by_cases hle:(d.goneBound.l.length:Int)<=4
     . cases hg:um d.goneBound.l (d.bound.l.map Way.id)<;>simp [bn,hg] at q2<;>simp [gX,i2,s2,hle,show ¬ (d.goneBound.l.length:Int)>4 from by omega,hg]<;>rw [au]<;>simp [q2,w3]
     . simp [gX,i2,s2,hle,show (d.goneBound.l.length:Int)>4 from by omega]
   . simp at hx;subst hx;by_cases hle:(d.gonePolicies.l.length:Int)<=12
     . cases hg:um d.gonePolicies.l (d.policies.l.map Pol.id)<;>simp [bn,hg] at q3<;>simp [gX,i3,s3,hle,show ¬ (d.gonePolicies.l.length:Int)>12 from by omega,hg]<;>rw [au]<;>simp [q3,w4]
     . simp [gX,i3,s3,hle,show (d.gonePolicies.l.length:Int)>12 from by omega]
 . simp [gX]
end
section
variable {E:Calls'}
def mrg {α:Type}(key:α->Int)(q:α->Bool):List α->List α->List α
 | l,[]=>l.filter q
 | [],f::fs=>f::fs
 | x::l,f::fs=>if key f<=key x then f::mrg key q (x::l) fs else (if q x then [x] else [])++mrg key q l (f::fs)
termination_by l fs=>l.length+fs.length
section
variable {α:Type}{key:α->Int}{q:α->Bool}
theorem rX (fs:List α):mrg key q [] fs=fs:=by
 cases fs with
 | nil=>simp [mrg]
 | cons f fs=>simp [mrg]
theorem Gp {l fs:List α}{f:α}(h:∀ x,l.head?=some x->key f<=key x):mrg key q l (f::fs)=f::mrg key q l fs:=by
 cases l with
 | nil=>rw [rX,rX]
 | cons x l=>rw [mrg,if_pos (h x rfl)]
theorem Gr {l fs:List α}{x:α}(h:∀ f,fs.head?=some f->¬ key f<=key x):mrg key q (x::l) fs=(if q x then [x] else [])++mrg key q l fs:=by
 cases fs with
 | nil =>
  rw [mrg,mrg,List.filter_cons];split<;>simp
 | cons f fs=>rw [mrg,if_neg (h f rfl)]
theorem xg {y:α}:∀ (n:Nat) (l fs:List α),l.length+fs.length=n->(y∈mrg key q l fs↔(y∈l/\q y=true)\/y∈fs):=by
 intro n
 induction n with
 | zero =>
  intro l fs h;have h1:l=[]:=List.eq_nil_of_length_eq_zero (by omega);have h2:fs=[]:=List.eq_nil_of_length_eq_zero (by omega);subst h1 h2;simp [mrg]
 | succ n ih =>
  intro l fs h;cases l with
  | nil=>rw [rX]; simp
  | cons x l =>
   cases fs with
   | nil=>rw [mrg,List.mem_filter]; simp
   | cons f fs =>
    by_cases hc:key f<=key x
    . rw [Gp (λy hy=>by cases hy; exact hc),List.mem_cons,ih (x::l) fs (by simp at h ⊢; omega),List.mem_cons,List.mem_cons];constructor
      . rintro (h | h | h)<;>simp [h]
      . rintro (h | h | h)<;>simp [h]
    . rw [Gr (λy hy=>by cases hy; exact hc),List.mem_append,ih l (f::fs) (by simp at h ⊢; omega)];by_cases hq:q x=true
      . rw [if_pos hq];simp only [List.mem_cons,List.not_mem_nil,or_false];constructor
        . rintro (h | h | h)
          . exact .inl ⟨.inl h,by rw [h]; exact hq⟩
          . exact .inl ⟨.inr h.1,h.2⟩
          . exact .inr h
        . rintro (⟨h | h,h2⟩ | h)
          . exact .inl h
          . exact .inr (.inl ⟨h,h2⟩)
          . exact .inr (.inr h)
      . rw [if_neg hq];simp only [List.mem_cons,List.not_mem_nil,false_or];constructor
        . rintro (h | h)
          . exact .inl ⟨.inr h.1,h.2⟩
          . exact .inr h
        . rintro (⟨h | h,h2⟩ | h)
          . subst h; exact absurd h2 hq
          . exact .inl ⟨h,h2⟩
          . exact .inr h
theorem Gq:∀ (n:Nat) (l fs:List α),l.length+fs.length=n->l.Pairwise (λa b=>key a<key b)->fs.Pairwise (λa b=>key a<key b)->(∀ x∈l,q x=true->∀ f∈fs,key x≠key f)->(mrg key q l fs).Pairwise λa b=>key a<key b:=by
 intro n
 induction n with
 | zero =>
  intro l fs h _ _ _;have h1:l=[]:=List.eq_nil_of_length_eq_zero (by omega);have h2:fs=[]:=List.eq_nil_of_length_eq_zero (by omega);subst h1 h2;simp [mrg]
 | succ n ih =>
  intro l fs h hl hf hd;cases l with
  | nil=>rw [rX]; exact hf
  | cons x l =>
   obtain ⟨l1,l2⟩:=List.pairwise_cons.1 hl;cases fs with
   | nil=>rw [mrg]; exact hl.sublist List.filter_sublist
   | cons f fs =>
    obtain ⟨f1,f2⟩:=List.pairwise_cons.1 hf;by_cases hc:key f<=key x
    . rw [Gp (λy hy=>by cases hy; exact hc)];refine List.pairwise_cons.2 ⟨λy hy=>?_,ih (x::l) fs (by simp at h ⊢; omega) hl f2 λa ha hq b hb=>hd a ha hq b (List.mem_cons_of_mem _ hb)⟩;obtain ⟨h1,h2⟩ | h1:=(xg _ (x::l) fs rfl).1 hy
      . have hne:=hd y h1 h2 f (by simp);obtain rfl | h3:=List.mem_cons.1 h1
        . omega
        . have:=l1 y h3; omega
      . exact f1 y h1
    . rw [Gr (λy hy=>by cases hy; exact hc)];have hrec:=ih l (f::fs) (by simp at h ⊢; omega) l2 hf λa ha hq b hb=>hd a (List.mem_cons_of_mem _ ha) hq b hb;split
      . refine List.pairwise_cons.2 ⟨λy hy=>?_,hrec⟩;obtain ⟨h1,h2⟩ | h1:=(xg _ l (f::fs) rfl).1 hy
        . exact l1 y h1
        . obtain rfl | h3:=List.mem_cons.1 h1
          . omega
          . have:=f1 y h3; omega
      . exact hrec
theorem pu {l fresh:List α}{gone:List Int}(hl:l.Pairwise λa b=>key a<key b)(hf:fresh.Pairwise λa b=>key a<key b):mrg key (λx=>!bu (fresh.map key) (key x)&&!bu gone (key x)) l fresh=bU key l fresh gone:=by
 have e:∀ x,(!bu (fresh.map key) (key x)&&!bu gone (key x))=fA key fresh gone x:=λx=>by
  unfold fA;have:bu (fresh.map key) (key x)=fresh.any λy=>key x==key y:=by
   rw [Bool.eq_iff_iff,hasT_iff,List.any_eq_true];constructor
   . intro h;obtain ⟨y,h1,h2⟩:=ce.1 h;exact ⟨y,h1,by simp [h2]⟩
   . rintro ⟨y,h1,h2⟩;exact ce.2 ⟨y,h1,by simpa using (by simpa using h2:key x=key y).symm⟩
  rw [this,Bool.and_comm]
 have nd:∀ {m:List α},m.Pairwise (λa b=>key a<key b)->(m.map key).Nodup:=λh=>by
  rw [List.nodup_iff_pairwise_ne,List.pairwise_map];exact h.imp λh=>by omega
 refine zO (key:=key) (Gq _ l fresh rfl hl hf λx hx hq f hfm=>?_) (List.pairwise_map.1 (Eh (nd hl) (nd hf))) λy=>?_
 . simp only [aq,Bool.not_eq_true'] at hq;intro h;have:bu (fresh.map key) (key x)=true:=hasT_iff.2 (by rw [h]; exact List.mem_map_of_mem hfm);rw [this] at hq;cases hq.1
 . rw [xg _ l fresh rfl];have:y∈bU key l fresh gone↔y∈l.filter (fA key fresh gone)++fresh:=(List.mergeSort_perm _ _).mem_iff;rw [this,List.mem_append,List.mem_filter,e]
end
theorem oP {T:FuncId->Option QF}{val:FuncId->Bool}{keep:List Nat}{body:QC}{α:Type}{cells:α->List D}(l fs:List α)(key:α->Int)(q:α->Bool)(g:α->α){Q z:Nat}{bs0:List Blk}{F:V->List V}(env:Nat->Nat->EA)(X:Ex×EA)
 (hf:∀ i k f,fs[k]?=some f->i<=l.length->(∀ x,l[i]?=some x->key f<=key x)->∀ bs lo v es,MkF Q bs0 F z es bs v->es.length<=i+k->∃ bs' lo' v',MkF Q bs0 F z (es++[cells (g f)]) bs' v'/\∀ W:EA->Hp->d9,bY keep W (Cd E T val body (bE keep (env i k)) ⟨bs,lo⟩)=W (env i (k+1)) ⟨bs',lo'⟩)
 (hx:∀ i k x,l[i]?=some x->k<=fs.length->(∀ f,fs[k]?=some f->¬ key f<=key x)->∀ bs lo v es,MkF Q bs0 F z es bs v->es.length<=i+k->∃ bs' lo' v',MkF Q bs0 F z (if q x then es++[cells (g x)] else es) bs' v'/\∀ W:EA->Hp->d9,bY keep W (Cd E T val body (bE keep (env i k)) ⟨bs,lo⟩)=W (env (i+1) k) ⟨bs',lo'⟩)
 (he:∀ bs lo v es,MkF Q bs0 F z es bs v->∀ W:EA->Hp->d9,bY keep W (Cd E T val body (bE keep (env l.length fs.length)) ⟨bs,lo⟩)=some (X.1,X.2,⟨bs,lo⟩)) (lo:Nat) (hD:ah bs0 Q=some (F ai)) :
 ∃ bs' lo' v',Cd E T val (.loop keep body) (env 0 0) ⟨bs0,lo⟩=some (X.1,X.2,⟨bs',lo'⟩)/\MkF Q bs0 F z (((mrg key q l fs).map g).map cells) bs' v':=by
 have main:∀ (m i k:Nat) (bs:List Blk) (lo:Nat) (v:V) (es:List (List D)),(l.length-i)+(fs.length-k)=m->i<=l.length->k<=fs.length->MkF Q bs0 F z es bs v->es.length<=i+k →
  ∃ bs' lo' v',Cd E T val (.loop keep body) (env i k) ⟨bs,lo⟩=some (X.1,X.2,⟨bs',lo'⟩)/\MkF Q bs0 F z (es++((mrg key q (l.drop i) (fs.drop k)).map g).map cells) bs' v':=by
  intro m;have rnd:=aC (E:=E) (T:=T) (val:=val) keep body;generalize Cd E T val (.loop keep body)=W at rnd ⊢
  induction m with
  | zero =>
   intro i k bs lo v es hm hi hk hM hes;have h1:i=l.length:=by omega
   have h2:k=fs.length:=by omega
   subst h1 h2;refine ⟨bs,lo,v,by rw [rnd,he bs lo v es hM W],?_⟩;rw [List.drop_length,List.drop_length];simpa [mrg] using hM
  | succ m ih =>
   intro i k bs lo v es hm hi hk hM hes;have hdh:∀ (n:Nat) (a:List α) (y:α),(a.drop n).head?=some y->a[n]?=some y:=λn a y h=>by rw [← List.head?_drop]; exact h
   by_cases hA:∃ f,fs[k]?=some f/\∀ x,l[i]?=some x->key f<=key x
   . obtain ⟨f,h1,h2⟩:=hA;have hlt:=(bx.1 h1).1;obtain ⟨bs1,lo1,v1,M1,e1⟩:=hf i k f h1 hi h2 bs lo v es hM hes;obtain ⟨bs2,lo2,v2,e2,M2⟩:=ih i (k+1) bs1 lo1 v1 _ (by omega) hi (by omega) M1 (by simp; omega);refine ⟨bs2,lo2,v2,by rw [rnd,e1 W,e2],?_⟩;have hd:fs.drop k=f::fs.drop (k+1):=by
      rw [aw hlt,← (bx.1 h1).2]
     rw [hd,Gp λx hx=>h2 x (hdh i l x hx)];simpa using M2
   . have hil:i<l.length:=by
      obtain h | h:=cr i l.length
      . exact h
      . have hkl:k<fs.length:=by omega
        exact absurd ⟨fs[k],ab hkl,λx hx=>by rw [bb h] at hx; cases hx⟩ hA
     have h1:=ab hil;have hd:=aw hil;generalize l[i]=x at h1 hd;have hn:∀ f,fs[k]?=some f->¬ key f<=key x:=λf hf' hle=>hA ⟨f,hf',λy hy=>by rw [h1] at hy; cases hy; exact hle⟩;obtain ⟨bs1,lo1,v1,M1,e1⟩:=hx i k x h1 hk hn bs lo v es hM hes;obtain ⟨bs2,lo2,v2,e2,M2⟩:=ih (i+1) k bs1 lo1 v1 _ (by omega) (by omega) hk M1 (by
      split
      . simp; omega
      . omega)
     refine ⟨bs2,lo2,v2,by rw [rnd,e1 W,e2],?_⟩;rw [hd,Gr λf hf'=>hn f (hdh k fs f hf')];cases hq:q x<;>simp [hq] at M2 ⊢<;>exact M2
 simpa using main _ 0 0 bs0 lo ai [] rfl (Nat.zero_le _) (Nat.zero_le _) (MkF.start z hD) (Nat.zero_le _)
end
section
variable {E:Calls'}
theorem xw (e:Int)(v w a b c d:V):put (az e a v b c d) 2 [w]=some (az e a w b c d):=rfl
theorem xW (e:Int)(v a b c d:V):sub (az e a v b c d) 2 1=some [v]:=rfl
theorem xx (e:Int)(v w a b c d:V):put (az e a b v c d) 3 [w]=some (az e a b w c d):=rfl
theorem xX (e:Int)(v a b c d:V):sub (az e a b v c d) 3 1=some [v]:=rfl
theorem xy (e:Int)(v w a b c d:V):put (az e a b c v d) 4 [w]=some (az e a b c w d):=rfl
theorem xY (e:Int)(v a b c d:V):sub (az e a b c v d) 4 1=some [v]:=rfl
theorem xz (e:Int)(v w a b c d:V):put (az e a b c d v) 5 [w]=some (az e a b c d w):=rfl
theorem xZ (e:Int)(v a b c d:V):sub (az e a b c d v) 5 1=some [v]:=rfl
def stayQ {α:Type}(key:α->Int)(N G:List Int)(x:α):Bool:=!bu N (key x)&&!bu G (key x)
section
variable {v:Vw}{d:Dlt}{Q P R:Nat}{bs0:List Blk}{ep:Int}{w1 w2 w3 w4:V}{pc gc:List V}(b0:ah bs0 0=some (v.c.map .d))(b1:ah bs0 1=some (d.c.map .d))(hP:ah bs0 P=some pc)(hR:ah bs0 R=some gc)(n0:1<Q)(n1:P≠Q)(n2:R≠Q)
include b0 b1 hP hR n0 n1 n2
theorem QP {N:Sl Int}(hN:short N)(hG:short d.gonePods)(sN:sub pc 0 1=some [.d (N.d ak)])(sG:sub gc 0 1=some [.d (d.gonePods.d ak)])(hl:v.pods.l.length<2 ^ 62)(hf:d.pods.l.length<2 ^ 62)(hlf:v.pods.l.length+d.pods.l.length<big)(hD:ah bs0 Q=some ((λx=>az ep w1 x ai ai ai) ai))(lo:Nat) :
 ∃ bs' lo' v',Cd E TDp bB (.loop [2,3,4,6,7,8,9,10] jb) [(2,.ptr 0 0),(3,.ptr 1 0),(4,.ptr 2 0),(6,.ptr Q 0),(7,.ptr P 0),(8,.ptr R 0),(9,.d (i64 ((0:Nat):Int))),(10,.d (i64 ((0:Nat):Int)))] ⟨bs0,lo⟩=some (.exit 0,[(2,.ptr 0 0),(3,.ptr 1 0),(4,.ptr 2 0),(6,.ptr Q 0),(7,.ptr P 0),(8,.ptr R 0)],⟨bs',lo'⟩)/\MkF Q bs0 (λx=>az ep w1 x ai ai ai) 7 (((mrg Pod.uid (stayQ Pod.uid N.l d.gonePods.l) v.pods.l d.pods.l).map id).map Pod.c) bs' v':=by
 refine oP (E:=E) (T:=TDp) (val:=bB) (keep:=[2,3,4,6,7,8,9,10]) (body:=jb) (cells:=Pod.c) v.pods.l d.pods.l Pod.uid _ id (Q:=Q) (z:=7) (bs0:=bs0) (F:=λx=>az ep w1 x ai ai ai) (λi k=>[(2,.ptr 0 0),(3,.ptr 1 0),(4,.ptr 2 0),(6,.ptr Q 0),(7,.ptr P 0),(8,.ptr R 0),(9,.d (i64 i)),(10,.d (i64 k))]) (.exit 0,[(2,.ptr 0 0),(3,.ptr 1 0),(4,.ptr 2 0),(6,.ptr Q 0),(7,.ptr P 0),(8,.ptr R 0)]) (λi k f hk hi hle bs lo x es hM hes=>?_) (λi k y hi hk hgt bs lo x es hM hes=>?_) (λbs lo x es hM W=>?_) lo hD
 . have hkl:=(bx.1 hk).1;have hsf:=λh=>av (z:=7) h hk (cells:=Pod.c) rfl;have hw:=ay hkl hf;have h0:((k:Int)<d.pods.l.length):=by omega
   have h1:((i:Int)<=v.pods.l.length):=by omega
   have g0:=hM.get (x:=0) (by omega) b0;have g1:=hM.get (x:=1) (by omega) b1;have gD:=hM.atD;have gD':=λys=>aJ (ys:=ys) hM.atD;have hnu:=hM.nu;have hM1:=hM.lay [.cells (f.c.map .d)];obtain ⟨v',bs',G,a1,a2,a3,a4,a5⟩:=hM1.app (by decide) (by_:=72) (by decide) (by omega) (e:=f.c) rfl (r:=bs.length) (cap:=some 1) (by simp);refine ⟨_,min (G lo) Q,v',by simpa using a5,λW=>?_⟩;obtain hil | hil:=cr i v.pods.l.length
   . have hi2:=ab hil;generalize v.pods.l[i]=y at hi2;have hsy:=λh=>av (z:=7) h hi2 (cells:=Pod.c) rfl;have h2:=hle y hi2;have h3:((i:Int)<v.pods.l.length):=by omega
     simp [jb,g0,g1,gD,gD',aB gD,hsf,hsy,h0,h2,h3,show ¬ ((v.pods.l.length:Int)<=i) from by omega,hw,hnu,a1,a2,a3,a4,xw,xW,aN,aA,aa,aM,aG,Tr.spares,List.range,List.range.loop,aj]
   . have h3:¬ ((i:Int)<v.pods.l.length):=by omega
     simp [jb,g0,g1,gD,gD',aB gD,hsf,h0,h3,show ((v.pods.l.length:Int)<=i) from by omega,hw,hnu,a1,a2,a3,a4,xw,xW,aN,aA,aa,aM,aG,Tr.spares,List.range,List.range.loop,aj]
 . have hil:=(bx.1 hi).1;have hsy:=λh=>av (z:=7) h hi (cells:=Pod.c) rfl;have hw:=ay hil hl;have h0:((i:Int)<v.pods.l.length):=by omega
   have g0:=hM.get (x:=0) (by omega) b0;have g1:=hM.get (x:=1) (by omega) b1;have gP:=hM.get n1 hP;have gR:=hM.get n2 hR;have gD:=hM.atD;have gD':=λys=>aJ (ys:=ys) hM.atD;have hnu:=hM.nu;have m1:=λh=>u7 (E:=E) hN (Pod.uid y) h;have m2:=λh=>u7 (E:=E) hG (Pod.uid y) h;have hix:∀ b hp,bg (some 4) 1 (.ptr b 0) (.d (.int .i64 0)) hp=some (.ptr b 0,hp):=λb hp=>rfl;have hsf:∀ (hkl:k<d.pods.l.length),∃ f,d.pods.l[k]?=some f/\¬ Pod.uid f<=Pod.uid y/\∀ h,bg none 7 (.d (d.pods.d Pod.c)) (.d (.int .i64 k)) h=some (.eptr f.c 0,h):=λhkl=>⟨_,ab hkl,hgt _ (ab hkl),λh=>av (z:=7) h (ab hkl) (cells:=Pod.c) rfl⟩;cases hq:stayQ Pod.uid N.l d.gonePods.l y with
   | false =>
    refine ⟨bs,lo,x,by simpa using hM,λW=>?_⟩;unfold stayQ at hq;obtain hkl | hkl:=cr k d.pods.l.length
    . obtain ⟨f,e1,e2,e3⟩:=hsf hkl;have e2':Pod.uid y<Pod.uid f:=by omega
      cases q1:bu N.l (Pod.uid y) with
      | true=>rw [q1] at m1; simp [jb,g0,g1,gP,gR,sN,sG,hix,hsy,e3,h0,show ((k:Int)<d.pods.l.length) from by omega,show ¬ ((v.pods.l.length:Int)<=i) from by omega,e2,e2',m1,hw,aA,aa,aM,aG,Tr.spares,List.range,List.range.loop,aj]
      | false =>
       have q2:bu d.gonePods.l (Pod.uid y)=true:=by simpa [q1] using hq
       rw [q1] at m1; rw [q2] at m2;simp [jb,g0,g1,gP,gR,sN,sG,hix,hsy,e3,h0,show ((k:Int)<d.pods.l.length) from by omega,show ¬ ((v.pods.l.length:Int)<=i) from by omega,e2,e2',m1,m2,hw,aA,aa,aM,aG,Tr.spares,List.range,List.range.loop,aj]
    . cases q1:bu N.l (Pod.uid y) with
      | true=>rw [q1] at m1; simp [jb,g0,g1,gP,gR,sN,sG,hix,hsy,h0,show ¬ ((k:Int)<d.pods.l.length) from by omega,m1,hw,aA,aa,aM,aG,Tr.spares,List.range,List.range.loop,aj]
      | false =>
       have q2:bu d.gonePods.l (Pod.uid y)=true:=by simpa [q1] using hq
       rw [q1] at m1; rw [q2] at m2;simp [jb,g0,g1,gP,gR,sN,sG,hix,hsy,h0,show ¬ ((k:Int)<d.pods.l.length) from by omega,m1,m2,hw,aA,aa,aM,aG,Tr.spares,List.range,List.range.loop,aj]
   | true =>
    have hM1:=hM.lay [.cells (y.c.map .d)];obtain ⟨v',bs',G,a1,a2,a3,a4,a5⟩:=hM1.app (by decide) (by_:=72) (by decide) (by omega) (e:=y.c) rfl (r:=bs.length) (cap:=some 1) (by simp);refine ⟨_,min (G lo) Q,v',by simpa using a5,λW=>?_⟩;unfold stayQ at hq;simp only [aq,Bool.not_eq_true'] at hq;rw [hq.1] at m1; rw [hq.2] at m2;obtain hkl | hkl:=cr k d.pods.l.length
    . obtain ⟨f,e1,e2,e3⟩:=hsf hkl;have e2':Pod.uid y<Pod.uid f:=by omega
      simp [jb,g0,g1,gP,gR,gD,gD',aB gD,sN,sG,hix,hsy,e3,h0,show ((k:Int)<d.pods.l.length) from by omega,show ¬ ((v.pods.l.length:Int)<=i) from by omega,e2,e2',m1,m2,hw,hnu,a1,a2,a3,a4,xw,xW,aN,aA,aa,aM,aG,Tr.spares,List.range,List.range.loop,aj]
    . simp [jb,g0,g1,gP,gR,gD,gD',aB gD,sN,sG,hix,hsy,h0,show ¬ ((k:Int)<d.pods.l.length) from by omega,m1,m2,hw,hnu,a1,a2,a3,a4,xw,xW,aN,aA,aa,aM,aG,Tr.spares,List.range,List.range.loop,aj]
 . have g0:=hM.get (x:=0) (by omega) b0;have g1:=hM.get (x:=1) (by omega) b1;simp [jb,g0,g1]
theorem QQ {N:Sl Int}(hN:short N)(hG:short d.goneServices)(sN:sub pc 1 1=some [.d (N.d ak)])(sG:sub gc 1 1=some [.d (d.goneServices.d ak)])(hl:v.services.l.length<2 ^ 62)(hf:d.services.l.length<2 ^ 62)(hlf:v.services.l.length+d.services.l.length<big)(hD:ah bs0 Q=some ((λx=>az ep w1 w2 x ai ai) ai))(lo:Nat) :
 ∃ bs' lo' v',Cd E TDp bB (.loop [2,3,4,6,7,8,11,12] jc) [(2,.ptr 0 0),(3,.ptr 1 0),(4,.ptr 2 0),(6,.ptr Q 0),(7,.ptr P 0),(8,.ptr R 0),(11,.d (i64 ((0:Nat):Int))),(12,.d (i64 ((0:Nat):Int)))] ⟨bs0,lo⟩=some (.exit 2,[(2,.ptr 0 0),(3,.ptr 1 0),(4,.ptr 2 0),(6,.ptr Q 0),(7,.ptr P 0),(8,.ptr R 0)],⟨bs',lo'⟩)/\MkF Q bs0 (λx=>az ep w1 w2 x ai ai) 5 (((mrg Svc.id (stayQ Svc.id N.l d.goneServices.l) v.services.l d.services.l).map id).map Svc.c) bs' v':=by
 refine oP (E:=E) (T:=TDp) (val:=bB) (keep:=[2,3,4,6,7,8,11,12]) (body:=jc) (cells:=Svc.c) v.services.l d.services.l Svc.id _ id (Q:=Q) (z:=5) (bs0:=bs0) (F:=λx=>az ep w1 w2 x ai ai) (λi k=>[(2,.ptr 0 0),(3,.ptr 1 0),(4,.ptr 2 0),(6,.ptr Q 0),(7,.ptr P 0),(8,.ptr R 0),(11,.d (i64 i)),(12,.d (i64 k))]) (.exit 2,[(2,.ptr 0 0),(3,.ptr 1 0),(4,.ptr 2 0),(6,.ptr Q 0),(7,.ptr P 0),(8,.ptr R 0)]) (λi k f hk hi hle bs lo x es hM hes=>?_) (λi k y hi hk hgt bs lo x es hM hes=>?_) (λbs lo x es hM W=>?_) lo hD
 . have hkl:=(bx.1 hk).1;have hsf:=λh=>av (z:=5) h hk (cells:=Svc.c) rfl;have hw:=ay hkl hf;have h0:((k:Int)<d.services.l.length):=by omega
   have h1:((i:Int)<=v.services.l.length):=by omega
   have g0:=hM.get (x:=0) (by omega) b0;have g1:=hM.get (x:=1) (by omega) b1;have gD:=hM.atD;have gD':=λys=>aJ (ys:=ys) hM.atD;have hnu:=hM.nu;have hM1:=hM.lay [.cells (f.c.map .d)];obtain ⟨v',bs',G,a1,a2,a3,a4,a5⟩:=hM1.app (by decide) (by_:=48) (by decide) (by omega) (e:=f.c) rfl (r:=bs.length) (cap:=some 1) (by simp);refine ⟨_,min (G lo) Q,v',by simpa using a5,λW=>?_⟩;obtain hil | hil:=cr i v.services.l.length
   . have hi2:=ab hil;generalize v.services.l[i]=y at hi2;have hsy:=λh=>av (z:=5) h hi2 (cells:=Svc.c) rfl;have h2:=hle y hi2;have h3:((i:Int)<v.services.l.length):=by omega
     simp [jc,g0,g1,gD,gD',aB gD,hsf,hsy,h0,h2,h3,show ¬ ((v.services.l.length:Int)<=i) from by omega,hw,hnu,a1,a2,a3,a4,xx,xX,aN,aA,aa,aM,aG,Tr.spares,List.range,List.range.loop,aj]
   . have h3:¬ ((i:Int)<v.services.l.length):=by omega
     simp [jc,g0,g1,gD,gD',aB gD,hsf,h0,h3,show ((v.services.l.length:Int)<=i) from by omega,hw,hnu,a1,a2,a3,a4,xx,xX,aN,aA,aa,aM,aG,Tr.spares,List.range,List.range.loop,aj]
 . have hil:=(bx.1 hi).1;have hsy:=λh=>av (z:=5) h hi (cells:=Svc.c) rfl;have hw:=ay hil hl;have h0:((i:Int)<v.services.l.length):=by omega
   have g0:=hM.get (x:=0) (by omega) b0;have g1:=hM.get (x:=1) (by omega) b1;have gP:=hM.get n1 hP;have gR:=hM.get n2 hR;have gD:=hM.atD;have gD':=λys=>aJ (ys:=ys) hM.atD;have hnu:=hM.nu;have m1:=λh=>u7 (E:=E) hN (Svc.id y) h;have m2:=λh=>u7 (E:=E) hG (Svc.id y) h;have hix:∀ b hp,bg (some 4) 1 (.ptr b 0) (.d (.int .i64 1)) hp=some (.ptr b 1,hp):=λb hp=>rfl;have hsf:∀ (hkl:k<d.services.l.length),∃ f,d.services.l[k]?=some f/\¬ Svc.id f<=Svc.id y/\∀ h,bg none 5 (.d (d.services.d Svc.c)) (.d (.int .i64 k)) h=some (.eptr f.c 0,h):=λhkl=>⟨_,ab hkl,hgt _ (ab hkl),λh=>av (z:=5) h (ab hkl) (cells:=Svc.c) rfl⟩;cases hq:stayQ Svc.id N.l d.goneServices.l y with
   | false =>
    refine ⟨bs,lo,x,by simpa using hM,λW=>?_⟩;unfold stayQ at hq;obtain hkl | hkl:=cr k d.services.l.length
    . obtain ⟨f,e1,e2,e3⟩:=hsf hkl;have e2':Svc.id y<Svc.id f:=by omega
      cases q1:bu N.l (Svc.id y) with
      | true=>rw [q1] at m1; simp [jc,g0,g1,gP,gR,sN,sG,hix,hsy,e3,h0,show ((k:Int)<d.services.l.length) from by omega,show ¬ ((v.services.l.length:Int)<=i) from by omega,e2,e2',m1,hw,aA,aa,aM,aG,Tr.spares,List.range,List.range.loop,aj]
      | false =>
       have q2:bu d.goneServices.l (Svc.id y)=true:=by simpa [q1] using hq
       rw [q1] at m1; rw [q2] at m2;simp [jc,g0,g1,gP,gR,sN,sG,hix,hsy,e3,h0,show ((k:Int)<d.services.l.length) from by omega,show ¬ ((v.services.l.length:Int)<=i) from by omega,e2,e2',m1,m2,hw,aA,aa,aM,aG,Tr.spares,List.range,List.range.loop,aj]
    . cases q1:bu N.l (Svc.id y) with
      | true=>rw [q1] at m1; simp [jc,g0,g1,gP,gR,sN,sG,hix,hsy,h0,show ¬ ((k:Int)<d.services.l.length) from by omega,m1,hw,aA,aa,aM,aG,Tr.spares,List.range,List.range.loop,aj]
      | false =>
       have q2:bu d.goneServices.l (Svc.id y)=true:=by simpa [q1] using hq
       rw [q1] at m1; rw [q2] at m2;simp [jc,g0,g1,gP,gR,sN,sG,hix,hsy,h0,show ¬ ((k:Int)<d.services.l.length) from by omega,m1,m2,hw,aA,aa,aM,aG,Tr.spares,List.range,List.range.loop,aj]
   | true =>
    have hM1:=hM.lay [.cells (y.c.map .d)];obtain ⟨v',bs',G,a1,a2,a3,a4,a5⟩:=hM1.app (by decide) (by_:=48) (by decide) (by omega) (e:=y.c) rfl (r:=bs.length) (cap:=some 1) (by simp);refine ⟨_,min (G lo) Q,v',by simpa using a5,λW=>?_⟩;unfold stayQ at hq;simp only [aq,Bool.not_eq_true'] at hq;rw [hq.1] at m1; rw [hq.2] at m2;obtain hkl | hkl:=cr k d.services.l.length
    . obtain ⟨f,e1,e2,e3⟩:=hsf hkl;have e2':Svc.id y<Svc.id f:=by omega
      simp [jc,g0,g1,gP,gR,gD,gD',aB gD,sN,sG,hix,hsy,e3,h0,show ((k:Int)<d.services.l.length) from by omega,show ¬ ((v.services.l.length:Int)<=i) from by omega,e2,e2',m1,m2,hw,hnu,a1,a2,a3,a4,xx,xX,aN,aA,aa,aM,aG,Tr.spares,List.range,List.range.loop,aj]
    . simp [jc,g0,g1,gP,gR,gD,gD',aB gD,sN,sG,hix,hsy,h0,show ¬ ((k:Int)<d.services.l.length) from by omega,m1,m2,hw,hnu,a1,a2,a3,a4,xx,xX,aN,aA,aa,aM,aG,Tr.spares,List.range,List.range.loop,aj]
 . have g0:=hM.get (x:=0) (by omega) b0;have g1:=hM.get (x:=1) (by omega) b1;simp [jc,g0,g1]
theorem QR {N:Sl Int}(hN:short N)(hG:short d.goneBound)(sN:sub pc 2 1=some [.d (N.d ak)])(sG:sub gc 2 1=some [.d (d.goneBound.d ak)])(hl:v.bound.l.length<2 ^ 62)(hf:d.bound.l.length<2 ^ 62)(hlf:v.bound.l.length+d.bound.l.length<big)(hD:ah bs0 Q=some ((λx=>az ep w1 w2 w3 x ai) ai))(lo:Nat) :
 ∃ bs' lo' v',Cd E TDp bB (.loop [2,3,4,6,7,8,13,14] jd) [(2,.ptr 0 0),(3,.ptr 1 0),(4,.ptr 2 0),(6,.ptr Q 0),(7,.ptr P 0),(8,.ptr R 0),(13,.d (i64 ((0:Nat):Int))),(14,.d (i64 ((0:Nat):Int)))] ⟨bs0,lo⟩=some (.exit 4,[(2,.ptr 0 0),(3,.ptr 1 0),(4,.ptr 2 0),(6,.ptr Q 0),(7,.ptr P 0),(8,.ptr R 0)],⟨bs',lo'⟩)/\MkF Q bs0 (λx=>az ep w1 w2 w3 x ai) 2 (((mrg Way.id (stayQ Way.id N.l d.goneBound.l) v.bound.l d.bound.l).map id).map Way.c) bs' v':=by
 refine oP (E:=E) (T:=TDp) (val:=bB) (keep:=[2,3,4,6,7,8,13,14]) (body:=jd) (cells:=Way.c) v.bound.l d.bound.l Way.id _ id (Q:=Q) (z:=2) (bs0:=bs0) (F:=λx=>az ep w1 w2 w3 x ai) (λi k=>[(2,.ptr 0 0),(3,.ptr 1 0),(4,.ptr 2 0),(6,.ptr Q 0),(7,.ptr P 0),(8,.ptr R 0),(13,.d (i64 i)),(14,.d (i64 k))]) (.exit 4,[(2,.ptr 0 0),(3,.ptr 1 0),(4,.ptr 2 0),(6,.ptr Q 0),(7,.ptr P 0),(8,.ptr R 0)]) (λi k f hk hi hle bs lo x es hM hes=>?_) (λi k y hi hk hgt bs lo x es hM hes=>?_) (λbs lo x es hM W=>?_) lo hD
 . have hkl:=(bx.1 hk).1;have hsf:=λh=>av (z:=2) h hk (cells:=Way.c) rfl;have hw:=ay hkl hf;have h0:((k:Int)<d.bound.l.length):=by omega
   have h1:((i:Int)<=v.bound.l.length):=by omega
   have g0:=hM.get (x:=0) (by omega) b0;have g1:=hM.get (x:=1) (by omega) b1;have gD:=hM.atD;have gD':=λys=>aJ (ys:=ys) hM.atD;have hnu:=hM.nu;have hM1:=hM.lay [.cells (f.c.map .d)];obtain ⟨v',bs',G,a1,a2,a3,a4,a5⟩:=hM1.app (by decide) (by_:=16) (by decide) (by omega) (e:=f.c) rfl (r:=bs.length) (cap:=some 1) (by simp);refine ⟨_,min (G lo) Q,v',by simpa using a5,λW=>?_⟩;obtain hil | hil:=cr i v.bound.l.length
   . have hi2:=ab hil;generalize v.bound.l[i]=y at hi2;have hsy:=λh=>av (z:=2) h hi2 (cells:=Way.c) rfl;have h2:=hle y hi2;have h3:((i:Int)<v.bound.l.length):=by omega
     simp [jd,g0,g1,gD,gD',aB gD,hsf,hsy,h0,h2,h3,show ¬ ((v.bound.l.length:Int)<=i) from by omega,hw,hnu,a1,a2,a3,a4,xy,xY,aN,aA,aa,aM,aG,Tr.spares,List.range,List.range.loop,aj]
   . have h3:¬ ((i:Int)<v.bound.l.length):=by omega
     simp [jd,g0,g1,gD,gD',aB gD,hsf,h0,h3,show ((v.bound.l.length:Int)<=i) from by omega,hw,hnu,a1,a2,a3,a4,xy,xY,aN,aA,aa,aM,aG,Tr.spares,List.range,List.range.loop,aj]
 . have hil:=(bx.1 hi).1;have hsy:=λh=>av (z:=2) h hi (cells:=Way.c) rfl;have hw:=ay hil hl;have h0:((i:Int)<v.bound.l.length):=by omega
   have g0:=hM.get (x:=0) (by omega) b0;have g1:=hM.get (x:=1) (by omega) b1;have gP:=hM.get n1 hP;have gR:=hM.get n2 hR;have gD:=hM.atD;have gD':=λys=>aJ (ys:=ys) hM.atD;have hnu:=hM.nu;have m1:=λh=>u7 (E:=E) hN (Way.id y) h;have m2:=λh=>u7 (E:=E) hG (Way.id y) h;have hix:∀ b hp,bg (some 4) 1 (.ptr b 0) (.d (.int .i64 2)) hp=some (.ptr b 2,hp):=λb hp=>rfl;have hsf:∀ (hkl:k<d.bound.l.length),∃ f,d.bound.l[k]?=some f/\¬ Way.id f<=Way.id y/\∀ h,bg none 2 (.d (d.bound.d Way.c)) (.d (.int .i64 k)) h=some (.eptr f.c 0,h):=λhkl=>⟨_,ab hkl,hgt _ (ab hkl),λh=>av (z:=2) h (ab hkl) (cells:=Way.c) rfl⟩;cases hq:stayQ Way.id N.l d.goneBound.l y with
   | false =>
    refine ⟨bs,lo,x,by simpa using hM,λW=>?_⟩;unfold stayQ at hq;obtain hkl | hkl:=cr k d.bound.l.length
    . obtain ⟨f,e1,e2,e3⟩:=hsf hkl;have e2':Way.id y<Way.id f:=by omega
      cases q1:bu N.l (Way.id y) with
      | true=>rw [q1] at m1; simp [jd,g0,g1,gP,gR,sN,sG,hix,hsy,e3,h0,show ((k:Int)<d.bound.l.length) from by omega,show ¬ ((v.bound.l.length:Int)<=i) from by omega,e2,e2',m1,hw,aA,aa,aM,aG,Tr.spares,List.range,List.range.loop,aj]
      | false =>
       have q2:bu d.goneBound.l (Way.id y)=true:=by simpa [q1] using hq
       rw [q1] at m1; rw [q2] at m2;simp [jd,g0,g1,gP,gR,sN,sG,hix,hsy,e3,h0,show ((k:Int)<d.bound.l.length) from by omega,show ¬ ((v.bound.l.length:Int)<=i) from by omega,e2,e2',m1,m2,hw,aA,aa,aM,aG,Tr.spares,List.range,List.range.loop,aj]
    . cases q1:bu N.l (Way.id y) with
      | true=>rw [q1] at m1; simp [jd,g0,g1,gP,gR,sN,sG,hix,hsy,h0,show ¬ ((k:Int)<d.bound.l.length) from by omega,m1,hw,aA,aa,aM,aG,Tr.spares,List.range,List.range.loop,aj]
      | false =>
       have q2:bu d.goneBound.l (Way.id y)=true:=by simpa [q1] using hq
       rw [q1] at m1; rw [q2] at m2;simp [jd,g0,g1,gP,gR,sN,sG,hix,hsy,h0,show ¬ ((k:Int)<d.bound.l.length) from by omega,m1,m2,hw,aA,aa,aM,aG,Tr.spares,List.range,List.range.loop,aj]
   | true =>
    have hM1:=hM.lay [.cells (y.c.map .d)];obtain ⟨v',bs',G,a1,a2,a3,a4,a5⟩:=hM1.app (by decide) (by_:=16) (by decide) (by omega) (e:=y.c) rfl (r:=bs.length) (cap:=some 1) (by simp);refine ⟨_,min (G lo) Q,v',by simpa using a5,λW=>?_⟩;unfold stayQ at hq;simp only [aq,Bool.not_eq_true'] at hq;rw [hq.1] at m1; rw [hq.2] at m2;obtain hkl | hkl:=cr k d.bound.l.length
    . obtain ⟨f,e1,e2,e3⟩:=hsf hkl;have e2':Way.id y<Way.id f:=by omega
      simp [jd,g0,g1,gP,gR,gD,gD',aB gD,sN,sG,hix,hsy,e3,h0,show ((k:Int)<d.bound.l.length) from by omega,show ¬ ((v.bound.l.length:Int)<=i) from by omega,e2,e2',m1,m2,hw,hnu,a1,a2,a3,a4,xy,xY,aN,aA,aa,aM,aG,Tr.spares,List.range,List.range.loop,aj]
    . simp [jd,g0,g1,gP,gR,gD,gD',aB gD,sN,sG,hix,hsy,h0,show ¬ ((k:Int)<d.bound.l.length) from by omega,m1,m2,hw,hnu,a1,a2,a3,a4,xy,xY,aN,aA,aa,aM,aG,Tr.spares,List.range,List.range.loop,aj]
 . have g0:=hM.get (x:=0) (by omega) b0;have g1:=hM.get (x:=1) (by omega) b1;simp [jd,g0,g1]
theorem QS (h35:∀ p:Pol,p.fits big->∀ h,Sm E TDp bB 64 [ag p.c] h=some (ag p.cp.c,h))(fl:∀ p∈v.policies.l,p.fits big)(fd:∀ p∈d.policies.l,p.fits big){N:Sl Int}(hN:short N)(hG:short d.gonePolicies)(sN:sub pc 3 1=some [.d (N.d ak)])(sG:sub gc 3 1=some [.d (d.gonePolicies.d ak)])(hl:v.policies.l.length<2 ^ 62)(hf:d.policies.l.length<2 ^ 62)(hlf:v.policies.l.length+d.policies.l.length<big)(hD:ah bs0 Q=some ((λx=>az ep w1 w2 w3 w4 x) ai))(lo:Nat) :
 ∃ bs' lo' v',Cd E TDp bB (.loop [2,3,4,6,7,8,15,16] je) [(2,.ptr 0 0),(3,.ptr 1 0),(4,.ptr 2 0),(6,.ptr Q 0),(7,.ptr P 0),(8,.ptr R 0),(15,.d (i64 ((0:Nat):Int))),(16,.d (i64 ((0:Nat):Int)))] ⟨bs0,lo⟩=some (.exit 6,[(4,.ptr 2 0),(6,.ptr Q 0)],⟨bs',lo'⟩)/\MkF Q bs0 (λx=>az ep w1 w2 w3 w4 x) 5 (((mrg Pol.id (stayQ Pol.id N.l d.gonePolicies.l) v.policies.l d.policies.l).map Pol.cp).map Pol.c) bs' v':=by
 refine oP (E:=E) (T:=TDp) (val:=bB) (keep:=[2,3,4,6,7,8,15,16]) (body:=je) (cells:=Pol.c) v.policies.l d.policies.l Pol.id _ Pol.cp (Q:=Q) (z:=5) (bs0:=bs0) (F:=λx=>az ep w1 w2 w3 w4 x) (λi k=>[(2,.ptr 0 0),(3,.ptr 1 0),(4,.ptr 2 0),(6,.ptr Q 0),(7,.ptr P 0),(8,.ptr R 0),(15,.d (i64 i)),(16,.d (i64 k))]) (.exit 6,[(4,.ptr 2 0),(6,.ptr Q 0)]) (λi k f hk hi hle bs lo x es hM hes=>?_) (λi k y hi hk hgt bs lo x es hM hes=>?_) (λbs lo x es hM W=>?_) lo hD
 . have hkl:=(bx.1 hk).1;have hsf:=λh=>av (z:=5) h hk (cells:=Pol.c) rfl;have hw:=ay hkl hf;have h0:((k:Int)<d.policies.l.length):=by omega
   have h1:((i:Int)<=v.policies.l.length):=by omega
   have g0:=hM.get (x:=0) (by omega) b0;have g1:=hM.get (x:=1) (by omega) b1;have gD:=hM.atD;have gD':=λys=>aJ (ys:=ys) hM.atD;have hnu:=hM.nu;have n5:=λh=>h35 f (fd f (cf hk)) h;have hM1:=hM.lay [.cells (f.cp.c.map .d)];obtain ⟨v',bs',G,a1,a2,a3,a4,a5⟩:=hM1.app (by decide) (by_:=64) (by decide) (by omega) (e:=f.cp.c) rfl (r:=bs.length) (cap:=some 1) (by simp);refine ⟨_,min (G lo) Q,v',by simpa using a5,λW=>?_⟩;obtain hil | hil:=cr i v.policies.l.length
   . have hi2:=ab hil;generalize v.policies.l[i]=y at hi2;have hsy:=λh=>av (z:=5) h hi2 (cells:=Pol.c) rfl;have h2:=hle y hi2;have h3:((i:Int)<v.policies.l.length):=by omega
     simp [je,g0,g1,gD,gD',aB gD,hsf,hsy,h0,h2,h3,show ¬ ((v.policies.l.length:Int)<=i) from by omega,hw,hnu,a1,a2,a3,a4,n5,xz,xZ,aN,aA,aa,aM,aG,Tr.spares,List.range,List.range.loop,aj]
   . have h3:¬ ((i:Int)<v.policies.l.length):=by omega
     simp [je,g0,g1,gD,gD',aB gD,hsf,h0,h3,show ((v.policies.l.length:Int)<=i) from by omega,hw,hnu,a1,a2,a3,a4,n5,xz,xZ,aN,aA,aa,aM,aG,Tr.spares,List.range,List.range.loop,aj]
 . have hil:=(bx.1 hi).1;have hsy:=λh=>av (z:=5) h hi (cells:=Pol.c) rfl;have hw:=ay hil hl;have h0:((i:Int)<v.policies.l.length):=by omega
   have g0:=hM.get (x:=0) (by omega) b0;have g1:=hM.get (x:=1) (by omega) b1;have gP:=hM.get n1 hP;have gR:=hM.get n2 hR;have gD:=hM.atD;have gD':=λys=>aJ (ys:=ys) hM.atD;have hnu:=hM.nu;have m1:=λh=>u7 (E:=E) hN (Pol.id y) h;have m2:=λh=>u7 (E:=E) hG (Pol.id y) h;have hix:∀ b hp,bg (some 4) 1 (.ptr b 0) (.d (.int .i64 3)) hp=some (.ptr b 3,hp):=λb hp=>rfl;have n5:=λh=>h35 y (fl y (cf hi)) h;have hsf:∀ (hkl:k<d.policies.l.length),∃ f,d.policies.l[k]?=some f/\¬ Pol.id f<=Pol.id y/\∀ h,bg none 5 (.d (d.policies.d Pol.c)) (.d (.int .i64 k)) h=some (.eptr f.c 0,h):=λhkl=>⟨_,ab hkl,hgt _ (ab hkl),λh=>av (z:=5) h (ab hkl) (cells:=Pol.c) rfl⟩;cases hq:stayQ Pol.id N.l d.gonePolicies.l y with
   | false =>
    refine ⟨bs,lo,x,by simpa using hM,λW=>?_⟩;unfold stayQ at hq;obtain hkl | hkl:=cr k d.policies.l.length
    . obtain ⟨f,e1,e2,e3⟩:=hsf hkl;have e2':Pol.id y<Pol.id f:=by omega
      cases q1:bu N.l (Pol.id y) with
      | true=>rw [q1] at m1; simp [je,g0,g1,gP,gR,sN,sG,hix,hsy,e3,h0,show ((k:Int)<d.policies.l.length) from by omega,show ¬ ((v.policies.l.length:Int)<=i) from by omega,e2,e2',m1,hw,aA,aa,aM,aG,Tr.spares,List.range,List.range.loop,aj]
      | false =>
       have q2:bu d.gonePolicies.l (Pol.id y)=true:=by simpa [q1] using hq
       rw [q1] at m1; rw [q2] at m2;simp [je,g0,g1,gP,gR,sN,sG,hix,hsy,e3,h0,show ((k:Int)<d.policies.l.length) from by omega,show ¬ ((v.policies.l.length:Int)<=i) from by omega,e2,e2',m1,m2,hw,aA,aa,aM,aG,Tr.spares,List.range,List.range.loop,aj]
    . cases q1:bu N.l (Pol.id y) with
      | true=>rw [q1] at m1; simp [je,g0,g1,gP,gR,sN,sG,hix,hsy,h0,show ¬ ((k:Int)<d.policies.l.length) from by omega,m1,hw,aA,aa,aM,aG,Tr.spares,List.range,List.range.loop,aj]
      | false =>
       have q2:bu d.gonePolicies.l (Pol.id y)=true:=by simpa [q1] using hq
       rw [q1] at m1; rw [q2] at m2;simp [je,g0,g1,gP,gR,sN,sG,hix,hsy,h0,show ¬ ((k:Int)<d.policies.l.length) from by omega,m1,m2,hw,aA,aa,aM,aG,Tr.spares,List.range,List.range.loop,aj]
   | true =>
    have hM1:=hM.lay [.cells (y.cp.c.map .d)];obtain ⟨v',bs',G,a1,a2,a3,a4,a5⟩:=hM1.app (by decide) (by_:=64) (by decide) (by omega) (e:=y.cp.c) rfl (r:=bs.length) (cap:=some 1) (by simp);refine ⟨_,min (G lo) Q,v',by simpa using a5,λW=>?_⟩;unfold stayQ at hq;simp only [aq,Bool.not_eq_true'] at hq;rw [hq.1] at m1; rw [hq.2] at m2;obtain hkl | hkl:=cr k d.policies.l.length
    . obtain ⟨f,e1,e2,e3⟩:=hsf hkl;have e2':Pol.id y<Pol.id f:=by omega
      simp [je,g0,g1,gP,gR,gD,gD',aB gD,sN,sG,hix,hsy,e3,h0,show ((k:Int)<d.policies.l.length) from by omega,show ¬ ((v.policies.l.length:Int)<=i) from by omega,e2,e2',m1,m2,hw,hnu,a1,a2,a3,a4,n5,xz,xZ,aN,aA,aa,aM,aG,Tr.spares,List.range,List.range.loop,aj]
    . simp [je,g0,g1,gP,gR,gD,gD',aB gD,sN,sG,hix,hsy,h0,show ¬ ((k:Int)<d.policies.l.length) from by omega,m1,m2,hw,hnu,a1,a2,a3,a4,n5,xz,xZ,aN,aA,aa,aM,aG,Tr.spares,List.range,List.range.loop,aj]
 . have g0:=hM.get (x:=0) (by omega) b0;have g1:=hM.get (x:=1) (by omega) b1;simp [je,g0,g1]
end
end
set_option maxHeartbeats 2000000
section
variable {E:Calls'}
theorem jW {α:Type}{key:α->Int}{l:List α}{n:Int}(h:kG key l n=true):l.Pairwise λa b=>key a<key b:=by
 simp only [kG,aq,bw] at h;exact List.pairwise_map.1 (mi h.1)
theorem Pi {α:Type}(m l:List α)(c c' d:α):(m++c::c'::l).set (m.length+1) d=m++c::d::l:=by
 rw [List.set_append_right _ _ (by omega),Nat.add_sub_cancel_left]; rfl
theorem Pj {α:Type}(m l:List α)(c c' c2 d:α):(m++c::c'::c2::l).set (m.length+2) d=m++c::c'::d::l:=by
 rw [List.set_append_right _ _ (by omega),Nat.add_sub_cancel_left]; rfl
def fe (v:Vw)(d:Dlt):Vw:=⟨d.epoch,⟨false,d.covers.l⟩,bn (bU Pod.uid v.pods.l d.pods.l d.gonePods.l),bn (bU Svc.id v.services.l d.services.l d.goneServices.l),bn (bU Way.id v.bound.l d.bound.l d.goneBound.l),bn ((bU Pol.id v.policies.l d.policies.l d.gonePolicies.l).map Pol.cp)⟩
structure DocPutE (E:Calls'):Prop where
 h35:∀ p:Pol,p.fits big->∀ h,E 64 [ag p.c] h=some (ag p.cp.c,h)
 h79:∀ d:Dlt,∀ h,E 19 [d.v] h=some (d.vw.v,h)
 h288:∀ p:Pol,p.wf big->∀ h,E 29 [ag p.c] h=some (bl (df p),h)
section
variable (H:DocPutE E)
include H
theorem ZX {v:Vw}(hv:v.ok)(hw:∀ p∈v.policies.l,p.wf big){d:Dlt}(hd:d.ok)(hwd:∀ p∈d.policies.l,p.wf big)(l1:d.pods.l.length<big)(l2:d.services.l.length<big)(l3:d.bound.l.length<big)(l4:d.policies.l.length<big)(hno:(aT v&&dw d)=false)(h:Hp) :
 Sm E TDp bB 21 [v.v,d.v] h=some (.tup [ag [.int .u64 0,.slice true [],.slice true [],.slice true [],.slice true [],.slice true []],.d (i64 1)],h):=by
 have n1:=λh=>Da (E:=E) H.h288 v hv hw h;have n2:=λh=>Mk (E:=E) H.h79 H.h288 d hd hwd l1 l2 l3 l4 h;rw [aY (show TDp 21=some q84 by kernel_rfl) rfl];cases h1:aT v with
 | false =>
  simp [ae,q84,n1,h1,aA,aa,aM,aF,Tr.mute,aj]
 | true =>
  have h2:dw d=false:=by simpa [h1] using hno
  simp [ae,q84,n1,n2,h1,h2,aA,aa,aM,aF,Tr.mute,aj]
theorem S84 {v:Vw}(hv:v.ok)(hw:∀ p∈v.policies.l,p.wf big){d:Dlt}(hd:d.ok)(hwd:∀ p∈d.policies.l,p.wf big)(l1:d.pods.l.length<big)(l2:d.services.l.length<big)(l3:d.bound.l.length<big)(l4:d.policies.l.length<big)(m1:aT v=true)(m2:dw d=true)(h:Hp) :
 Sm E TDp bB 21 [v.v,d.v] h=some (if aT (fe v d)=true then .tup [(fe v d).v,.d (i64 0)] else .tup [ag [.int .u64 0,.slice true [],.slice true [],.slice true [],.slice true [],.slice true []],.d (i64 1)],h):=by
 have n1:=λh=>Da (E:=E) H.h288 v hv hw h;have n2:=λh=>Mk (E:=E) H.h79 H.h288 d hd hwd l1 l2 l3 l4 h;have n79:=λh=>(aO (E:=E) (T:=TDp) (val:=bB) (f:=19) (by kernel_rfl)).trans (H.h79 d h);have n180:=λh=>Ml (E:=E) d.vw l1 l2 l3 l4 h;have n181:=λh=>Mm (E:=E) d h;have n35:∀ p:Pol,p.fits big->∀ h,Sm E TDp bB 64 [ag p.c] h=some (ag p.cp.c,h):=λp hp h=>by rw [aO (by kernel_rfl)]; exact H.h35 p hp h
 obtain ⟨hdv,hg1,hg2,hg3,hg4⟩:=hd;have md:aT d.vw=true:=by
  simp only [dw,aq] at m2;exact m2.2
 obtain ⟨r1,r2,r3,r4⟩:=iO m1;obtain ⟨s1,s2,s3,s4⟩:=iO md;have a1:=aL r1; have a2:=aL r2; have a3:=aL r3; have a4:=aL r4;have b1:=aL s1; have b2:=aL s2; have b3:=aL s3; have b4:=aL s4;simp only [Dlt.vw] at b1 b2 b3 b4 s1 s2 s3 s4;have hbig:(64:Nat)<big:=by decide
 have hb62:(64:Nat)<2 ^ 62:=by decide
 obtain ⟨x,bs,a,l,k,r,u⟩:=Dn (cells:=bP) (z:=1) (by_:=4) (s:=d.covers) (λ_=>rfl) (by decide) (by decide) hdv.1 [.cells (v.c.map .d),.cells (d.c.map .d),.cells [.d (.int .u64 0),.d (.slice true []),.d (.slice true []),.d (.slice true []),.d (.slice true []),.d (.slice true [])]];have hx:x≠.d (.slice true []):=by rintro rfl; exact absurd (u 0 (by simp)) (by simp [V.under])
 have g0:ah bs 0=some (v.c.map .d):=by unfold ah; rw [k 0 (by simp)]; rfl
 have g1:ah bs 1=some (d.c.map .d):=by unfold ah; rw [k 1 (by simp)]; rfl
 have g2:ah bs 2=some [.d (.int .u64 0),.d (.slice true []),.d (.slice true []),.d (.slice true []),.d (.slice true []),.d (.slice true [])]:=by unfold ah; rw [k 2 (by simp)]; rfl
 have h3:3<=bs.length:=by simpa using l
 have h4:3<bs.length:=by
  obtain ⟨_,rfl⟩ | ⟨b,cap,r1,r2,_⟩:=r.2
  . exact absurd rfl hx
  . simp at r1; omega
 have hne:¬ bs=[]:=by rintro rfl; simp at h4
 let pc:List V:=[.d ((bn (d.pods.l.map Pod.uid)).d ak),.d ((bn (d.services.l.map Svc.id)).d ak),.d ((bn (d.bound.l.map Way.id)).d ak),.d ((bn (d.policies.l.map Pol.id)).d ak)]
 let gc:List V:=[.d (d.gonePods.d ak),.d (d.goneServices.d ak),.d (d.goneBound.d ak),.d (d.gonePolicies.d ak)]
 have hpc:pc=_:=rfl;have hgc:gc=_:=rfl;have i0:ah (bs++[.cells (az d.epoch x ai ai ai ai),.cells pc,.cells gc]) 0=_:=aJ g0;have i1:ah (bs++[.cells (az d.epoch x ai ai ai ai),.cells pc,.cells gc]) 1=_:=aJ g1;have i2:ah (bs++[.cells (az d.epoch x ai ai ai ai),.cells pc,.cells gc]) 2=_:=aJ g2;have iQ:ah (bs++[.cells (az d.epoch x ai ai ai ai),.cells pc,.cells gc]) bs.length=some (az d.epoch x ai ai ai ai):=by rw [eF]; rfl
 have iP:ah (bs++[.cells (az d.epoch x ai ai ai ai),.cells pc,.cells gc]) (bs.length+1)=some pc:=by rw [uk]; rfl
 have iR:ah (bs++[.cells (az d.epoch x ai ai ai ai),.cells pc,.cells gc]) (bs.length+2)=some gc:=by
  have:=fu (bs:=bs) (ys:=[.cells (az d.epoch x ai ai ai ai),.cells pc,.cells gc]) (i:=2);rw [this]; rfl
 have sh:∀ {α:Type} (l:List α) (f:α->Int),l.length<=big->short (bn (l.map f)):=λl f h=>⟨by simpa [bn] using h,λhn=>by simpa [bn] using hn⟩;have kp1:=pu (key:=Pod.uid) (gone:=d.gonePods.l) (jW r1) (jW s1);have kp2:=pu (key:=Svc.id) (gone:=d.goneServices.l) (jW r2) (jW s2);have kp3:=pu (key:=Way.id) (gone:=d.goneBound.l) (jW r3) (jW s3);have kp4:=pu (key:=Pol.id) (gone:=d.gonePolicies.l) (jW r4) (jW s4);obtain ⟨x2,lo2,w2,c2,K2⟩:=QP (E:=E) (P:=bs.length+1) (R:=bs.length+2) (ep:=d.epoch) (w1:=x) i0 i1 iP iR (by omega) (by omega) (by omega) (sh d.pods.l Pod.uid (by omega)) hg1 rfl rfl (by omega) (by omega) (by omega) iQ 0;obtain ⟨x3,lo3,w3,c3,K3⟩:=QQ (E:=E) (P:=bs.length+1) (R:=bs.length+2) (ep:=d.epoch) (w1:=x) (w2:=w2) (K2.get (by omega) i0) (K2.get (by omega) i1) (K2.get (by omega) iP) (K2.get (by omega) iR) (by omega) (by omega) (by omega) (sh d.services.l Svc.id (by omega)) hg2 rfl rfl (by omega) (by omega) (by omega) K2.atD lo2;obtain ⟨x4,lo4,w4,c4,K4⟩:=QR (E:=E) (P:=bs.length+1) (R:=bs.length+2) (ep:=d.epoch) (w1:=x) (w2:=w2) (w3:=w3) (K3.get (by omega) (K2.get (by omega) i0)) (K3.get (by omega) (K2.get (by omega) i1)) (K3.get (by omega) (K2.get (by omega) iP)) (K3.get (by omega) (K2.get (by omega) iR)) (by omega) (by omega) (by omega) (sh d.bound.l Way.id (by omega)) hg3 rfl rfl (by omega) (by omega) (by omega) K3.atD lo3
 obtain ⟨x5,lo5,w5,c5,K5⟩:=QS (E:=E) (P:=bs.length+1) (R:=bs.length+2) (ep:=d.epoch) (w1:=x) (w2:=w2) (w3:=w3) (w4:=w4) (K4.get (by omega) (K3.get (by omega) (K2.get (by omega) i0))) (K4.get (by omega) (K3.get (by omega) (K2.get (by omega) i1))) (K4.get (by omega) (K3.get (by omega) (K2.get (by omega) iP))) (K4.get (by omega) (K3.get (by omega) (K2.get (by omega) iR))) (by omega) (by omega) (by omega) n35 (λp hp=>(hw p hp).fits) (λp hp=>(hwd p hp).fits) (sh d.policies.l Pol.id (by omega)) hg4 rfl rfl (by omega) (by omega) (by omega) K4.atD lo4;have f5:=K5.get (by omega) (K4.get (by omega) (K3.get (by omega) (K2.get (by omega) i2)));have d5:=K5.atD;have e2:=K2.len;have e3:=K3.len;have e4:=K4.len;have e5:=K5.len;have j2:(mrg Pod.uid (stayQ Pod.uid (bn (d.pods.l.map Pod.uid)).l d.gonePods.l) v.pods.l d.pods.l).map id=bU Pod.uid v.pods.l d.pods.l d.gonePods.l:=by rw [List.map_id]; exact kp1
 have j3:(mrg Svc.id (stayQ Svc.id (bn (d.services.l.map Svc.id)).l d.goneServices.l) v.services.l d.services.l).map id=bU Svc.id v.services.l d.services.l d.goneServices.l:=by rw [List.map_id]; exact kp2
 have j4:(mrg Way.id (stayQ Way.id (bn (d.bound.l.map Way.id)).l d.goneBound.l) v.bound.l d.bound.l).map id=bU Way.id v.bound.l d.bound.l d.goneBound.l:=by rw [List.map_id]; exact kp3
 have j5:mrg Pol.id (stayQ Pol.id (bn (d.policies.l.map Pol.id)).l d.gonePolicies.l) v.policies.l d.policies.l=bU Pol.id v.policies.l d.policies.l d.gonePolicies.l:=kp4;rw [j2] at K2; rw [j3] at K3; rw [j4] at K4; rw [j5] at K5;have b4:∀ y,y<x4.length->y≠bs.length->x5[y]?=x4[y]?:=K5.old;have b3:∀ y,y<x3.length->y≠bs.length->x5[y]?=x3[y]?:=λy hy hn=>(b4 y (by omega) hn).trans (K4.old y hy hn);have b2:∀ y,y<x2.length->y≠bs.length->x5[y]?=x2[y]?:=λy hy hn=>(b3 y (by omega) hn).trans (K3.old y hy hn);have bl2:bs.length+3<=x2.length:=by simpa using e2
 have b1:∀ y,y<bs.length->x5[y]?=bs[y]?:=λy hy=>by rw [b2 y (by omega) (by omega),K2.old y (by simp; omega) (by omega),am hy]
 have hcv:∀ (m:List Blk) (lo:Nat),(∀ y,y≠2->m[y]?=x5[y]?)->bG ⟨m,lo⟩ (az d.epoch x w2 w3 w4 w5)=some (fe v d).c:=λm lo ho=>by
  have t1:dataV ⟨m,lo⟩ 8 x=_:=(r.on (bs':=m) λy h1 h2=>by simp at h1; rw [ho y (by omega),b1 y h2]).datN hx lo 7;have t2:dataV ⟨m,lo⟩ 8 w2=_:=K2.datL (λy h1 h2=>by rw [ho y (by omega),b2 y h2 (by omega)]) lo;have t3:dataV ⟨m,lo⟩ 8 w3=_:=K3.datL (λy h1 h2=>by rw [ho y (by omega),b3 y h2 (by omega)]) lo;have t4:dataV ⟨m,lo⟩ 8 w4=_:=K4.datL (λy h1 h2=>by rw [ho y (by omega),b4 y h2 (by omega)]) lo;have t5:dataV ⟨m,lo⟩ 8 w5=_:=K5.datL (λy h1 h2=>by rw [ho y (by omega)]) lo;simp only [az,bG,List.mapM_cons,List.mapM_nil,t1,t2,t3,t4,t5];simp [fe,Vw.c,Sl.d,bn]
 have wp:∀ p∈bU Pol.id v.policies.l d.policies.l d.gonePolicies.l,p.wf big:=λp hp=>by
  obtain h | h:=uH hp
  . exact hw p h
  . exact hwd p h
 have lq1:=eO (key:=Pod.uid) (l:=v.pods.l) (fresh:=d.pods.l) (gone:=d.gonePods.l);have lq2:=eO (key:=Svc.id) (l:=v.services.l) (fresh:=d.services.l) (gone:=d.goneServices.l);have lq3:=eO (key:=Way.id) (l:=v.bound.l) (fresh:=d.bound.l) (gone:=d.goneBound.l);have lq4:=eO (key:=Pol.id) (l:=v.policies.l) (fresh:=d.policies.l) (gone:=d.gonePolicies.l);have shn:∀ {α:Type} {l:List α},l.length<=big->short (bn l):=λh=>⟨by simpa [bn] using h,λhn=>by simpa [bn] using hn⟩;have wpc:∀ p∈(fe v d).policies.l,p.wf big:=λp hp=>by
  obtain ⟨q,hq,rfl⟩:=ce.1 (show p∈(bU Pol.id v.policies.l d.policies.l d.gonePolicies.l).map Pol.cp from hp);exact Pol.cp_wf (wp q hq)
 have hok:(fe v d).ok:=⟨⟨hdv.1.1,λh=>by cases h⟩,shn (by omega),shn (by omega),shn (by omega),shn (by rw [b9]; omega),λp hp=>(wpc p hp).fits⟩;have n178:∀ (lo:Nat),Sm E TDp bB 9 [.agg (az d.epoch x w2 w3 w4 w5)] ⟨x5,lo⟩=some (bl (aT (fe v d)),⟨x5,lo⟩):=λlo =>
  CW (show TDp 9=some uI by kernel_rfl) rfl (λh=>Da (E:=E) H.h288 (fe v d) hok wpc h) (by rw [jB,hcv x5 lo λ_ _=>rfl])
 have ez:((0:Nat):Int)=0:=rfl;have g1':=λys=>aJ (ys:=ys) g1;rw [ez] at c2 c3 c4 c5;have rc:=r.cl;have rn:=r.nu;have hpz:put [V.d (.int .u64 0),.d (.slice true []),.d (.slice true []),.d (.slice true []),.d (.slice true []),.d (.slice true [])] 0 [.d (u64 d.epoch),x]=some (az d.epoch x ai ai ai ai):=rfl;have hnum:uA d.vw=.agg pc:=rfl;have hgon:yZ d=.agg gc:=rfl;rw [hnum] at n180;rw [hgon] at n181;have pz4:∀ c:List V,c.length=4->put [V.d (.slice true []),.d (.slice true []),.d (.slice true []),.d (.slice true [])] 0 c=some c:=λc hc=>by
  match c,hc with
  | [_,_,_,_],_=>rfl
 have pp:=pz4 pc rfl;have pg:=pz4 gc rfl;have lpc:pc.length=4:=rfl;have lgc:gc.length=4:=rfl;rw [aY (show TDp 21=some q84 by kernel_rfl) rfl];generalize pc=pc at *;generalize gc=gc at *;simp at a;simp [az] at c2;simp [ae,q84,n1,n2,n79,n180,n181,m1,m2,a,g0,g1,g1',g2,Pi,Pj,uk,rc,rn,aN,hne,h4,pp,pg,lpc,lgc,show 1<bs.length from by omega,aA,aa,aM,aF,aG,Tr.mute,Tr.spares,List.range,List.range.loop,aj];rw [au];simp [c2];rw [au];simp [c3];rw [au];simp [c4];rw [au];have sA:sub (az d.epoch x w2 w3 w4 w5) 0 6=some (az d.epoch x w2 w3 w4 w5):=rfl;have pA:put [V.d (.int .u64 0),.d (.slice true []),.d (.slice true []),.d (.slice true []),.d (.slice true []),.d (.slice true [])] 0 (az d.epoch x w2 w3 w4 w5)=some (az d.epoch x w2 w3 w4 w5):=rfl;have s2:∀ X,ah (x5.set 2 (.cells X)) 2=some X:=λX=>aU f5;have hlen:(az d.epoch x w2 w3 w4 w5).length=6:=rfl;have hcs:∀ X lo,bG ⟨x5.set 2 (.cells X),lo⟩ (az d.epoch x w2 w3 w4 w5)=some (fe v d).c:=λX lo=>hcv _ lo λy hy=>ac (Ne.symm hy);cases hm:aT (fe v d) with
 | true =>
  rw [hm] at n178;simp [c5,f5,d5,sA,pA,s2,hlen,n178];simp [hcs]
 | false =>
  rw [hm] at n178;simp [c5,f5,d5,sA,pA,s2,hlen,n178]
end
end
section
def Idx.own (x:Idx):Idx:={ x with view:=x.view.own }
def Wk (x:Idx)(n:Int):List V:=x.c.map .d++[.d (u64 n)]
section
variable {x:Idx}{n:Int}
@[simp] theorem Wk.len:(Wk x n).length=15:=(rfl)
@[simp] theorem Wk.s0_14:sub (Wk x n) 0 14=some (x.c.map .d):=(rfl)
@[simp] theorem Wk.s1_1:sub (Wk x n) 1 1=some [.d (u64 x.inc)]:=(rfl)
@[simp] theorem Wk.s2_1:sub (Wk x n) 2 1=some [.d (u64 x.asked)]:=(rfl)
@[simp] theorem Wk.s3_1:sub (Wk x n) 3 1=some [.d (x.addrs.d bP)]:=(rfl)
@[simp] theorem Wk.s5_1:sub (Wk x n) 5 1=some [.d (u64 x.life)]:=(rfl)
@[simp] theorem Wk.s6_1:sub (Wk x n) 6 1=some [.d (u64 x.seq)]:=(rfl)
@[simp] theorem Wk.s7_6:sub (Wk x n) 7 6=some (x.view.c.map .d):=(rfl)
@[simp] theorem Wk.s13_1:sub (Wk x n) 13 1=some [.d (u64 x.high)]:=(rfl)
@[simp] theorem Wk.s14_1:sub (Wk x n) 14 1=some [.d (u64 n)]:=(rfl)
@[simp] theorem Wk.p2 {m:Int}:put (Wk x n) 2 [.d (u64 m)]=some (Wk { x with asked:=m } n):=(rfl)
@[simp] theorem Wk.p4 {m:Int}:put (Wk x n) 4 [.d (u64 m)]=some (Wk { x with since:=m } n):=(rfl)
@[simp] theorem Wk.p5 {m:Int}:put (Wk x n) 5 [.d (u64 m)]=some (Wk { x with life:=m } n):=(rfl)
@[simp] theorem Wk.p6 {m:Int}:put (Wk x n) 6 [.d (u64 m)]=some (Wk { x with seq:=m } n):=(rfl)
@[simp] theorem Wk.p7 {v:Vw}:put (Wk x n) 7 (v.c.map .d)=some (Wk { x with view:=v } n):=(rfl)
@[simp] theorem Wk.p13 {m:Int}:put (Wk x n) 13 [.d (u64 m)]=some (Wk { x with high:=m } n):=(rfl)
@[simp] theorem Idx.p3:put (x.c.map V.d) 3 [.d (x.addrs.d bP)]=some (x.c.map .d):=(rfl)
@[simp] theorem Idx.p7 {v:Vw}:put (x.c.map V.d) 7 (v.c.map .d)=some ((Idx.c { x with view:=v }).map .d):=(rfl)
end
section
variable {E:Calls'}
def Idx.same (a b:Idx):Bool:=(a.node==b.node&&(a.inc==b.inc&&(a.asked==b.asked&&(a.since==b.since&&(a.life==b.life&&(a.seq==b.seq&&a.high==b.high))))))&&(all2 (λx y:Int=>x==y) a.addrs.l b.addrs.l&&a.view.same b.view)
end
end
section
section
variable {x:Idx}
@[simp] theorem Idx.own_node:x.own.node=x.node:=(rfl)
@[simp] theorem Idx.own_inc:x.own.inc=x.inc:=(rfl)
@[simp] theorem Idx.own_life:x.own.life=x.life:=(rfl)
@[simp] theorem Idx.own_seq:x.own.seq=x.seq:=(rfl)
@[simp] theorem Idx.own_high:x.own.high=x.high:=(rfl)
@[simp] theorem Idx.own_view:x.own.view=x.view.own:=(rfl)
end
end
