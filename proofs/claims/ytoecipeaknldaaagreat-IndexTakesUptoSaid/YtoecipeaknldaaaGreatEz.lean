/- spoil of an index. -/
import Derived.Test.YtoecipeaknldaaaGreatHb
set_option maxRecDepth 100000
set_option linter.unusedVariables false
set_option linter.unusedSimpArgs false
namespace Go.Proofs.YtoecipeaknldaaaGreat
section
variable {E:Calls'}
def VA:List (Nat×QF):=[(17,q30)]
def TDz:FuncId->Option QF:=iN VA
def nE (_:FuncId):Bool:=false
theorem Ri:TDz 17=some q30:=by kernel_rfl
theorem PL {K:Nat->Prop}{p:Nat}{cells:List V}{v:V}(hp:¬ K p)(hs:sub cells 3 1=some [v])(bs:List Blk)(lo:Nat)(hg:ai bs p=some cells)(hv:URow K bs v) :
 ∃ bs' lo',Cd E TDz nE (.loop [1,2,4] rF) [(1,.d (.slice true [])),(2,.ptr p 0),(4,.d (i64 ((0:Nat):Int)))] ⟨bs,lo⟩=some (.exit 0,[(1,.d (.slice true [])),(2,.ptr p 0)],⟨bs',lo'⟩)/\Keeps K bs bs':=by
 obtain ⟨nl,rfl⟩ | ⟨b,n,cap,cs,hL,rfl,hn,hb,hi⟩:=hv
 . refine ⟨bs,lo,?_,Keeps.refl⟩;rw [aF];simp [rF,hg,hs]
 . obtain ⟨bs',lo',h1,h2,h3,h4⟩:=qb (E:=E) (T:=TDz) (val:=nE) (keep:=[1,2,4]) (body:=rF) n (λi=>[(1,.d (.slice true [])),(2,.ptr p 0),(4,.d (i64 i))]) (λi bs'=>Keeps K bs bs'/\(∀ x,x≠b->bs'[x]?=bs[x]?)/\∃ cs',ai bs' b=some cs'/\Udc n cs') (.exit 0,[(1,.d (.slice true [])),(2,.ptr p 0)])
    (by
      intro i hlt bs1 lo1 ⟨hk,hx,cs1,hc1,hi1⟩;obtain ⟨x,hxx⟩:=hi1 i hlt;have hlen:=(bw.1 hxx).1;obtain ⟨cs2,q1,q2,q3⟩:=GU (y:=.d (u32 (IntKind.wrap .u32 (x+1)))) hlen;have hgp:=hk.get hp hg;have hsx:=BX hxx;have hw:=ay hlt hn;have h0:((i:Int)<n):=by omega
      have hix:∀ hp,cZ none 1 (.row b 0 n cap 1) (.d (.int .i64 i)) hp=some (.ptr b i,hp):=λhp=>by
       simp only [cZ];rw [if_pos ⟨by omega,by omega,trivial⟩];simp
      refine ⟨bs1.set b (.cells cs2),min lo1 b,⟨hk.trans (Keeps.set hL hc1 q2),λy hy=>by rw [ac (Ne.symm hy),hx y hy],cs2,aN hc1,hi1.put q3⟩,λW=>?_⟩;simp [rF,hgp,hs,hix,hc1,hsx,q1,h0,hw,-qC,-qD])
    (by
      intro bs1 lo1 ⟨hk,hx,cs1,hc1,hi1⟩ W;have hgp:=hk.get hp hg;simp [rF,hgp,hs])
    bs lo ⟨Keeps.refl,λ_ _=>rfl,cs,hb,hi⟩
   exact ⟨bs',lo',h1,h2⟩
theorem PM {K:Nat->Prop}{p:Nat}{cells:List V}{v:V}(hp:¬ K p)(hs:sub cells 9 1=some [v])(bs:List Blk)(lo:Nat)(hg:ai bs p=some cells)(hv:IdRow K bs 7 v) :
 ∃ bs' lo',Cd E TDz nE (.loop [1,2,5] rG) [(1,.d (.slice true [])),(2,.ptr p 0),(5,.d (i64 ((0:Nat):Int)))] ⟨bs,lo⟩=some (.exit 2,[(1,.d (.slice true [])),(2,.ptr p 0)],⟨bs',lo'⟩)/\Keeps K bs bs':=by
 obtain ⟨nl,rfl⟩ | ⟨b,n,cap,cs,hL,rfl,hn,hb,hi⟩:=hv
 . refine ⟨bs,lo,?_,Keeps.refl⟩;rw [aF];simp [rG,hg,hs]
 . obtain ⟨bs',lo',h1,h2,h3,h4⟩:=qb (E:=E) (T:=TDz) (val:=nE) (keep:=[1,2,5]) (body:=rG) n (λi=>[(1,.d (.slice true [])),(2,.ptr p 0),(5,.d (i64 i))]) (λi bs'=>Keeps K bs bs'/\(∀ x,x≠b->bs'[x]?=bs[x]?)/\∃ cs',ai bs' b=some cs'/\Idc 7 n cs') (.exit 2,[(1,.d (.slice true [])),(2,.ptr p 0)])
    (by
      intro i hlt bs1 lo1 ⟨hk,hx,cs1,hc1,hi1⟩;obtain ⟨x,hxx⟩:=hi1 i hlt;have hlen:=(bw.1 hxx).1;obtain ⟨cs2,q1,q2,q3⟩:=GU (y:=.d (u64 (IntKind.wrap .u64 (x+1)))) hlen;have hgp:=hk.get hp hg;have hsx:=BX hxx;have hw:=ay hlt hn;have h0:((i:Int)<n):=by omega
      have hix:∀ hp,cZ none 7 (.row b 0 n cap 7) (.d (.int .i64 i)) hp=some (.ptr b (i * 7),hp):=λhp=>by
       simp only [cZ];rw [if_pos ⟨by omega,by omega,trivial⟩];simp
      refine ⟨bs1.set b (.cells cs2),min lo1 b,⟨hk.trans (Keeps.set hL hc1 q2),λy hy=>by rw [ac (Ne.symm hy),hx y hy],cs2,aN hc1,hi1.put q3⟩,λW=>?_⟩;simp [rG,hgp,hs,hix,hc1,hsx,q1,h0,hw,-qC,-qD])
    (by
      intro bs1 lo1 ⟨hk,hx,cs1,hc1,hi1⟩ W;have hgp:=hk.get hp hg;simp [rG,hgp,hs])
    bs lo ⟨Keeps.refl,λ_ _=>rfl,cs,hb,hi⟩
   exact ⟨bs',lo',h1,h2⟩
theorem PN {K:Nat->Prop}{p:Nat}{cells:List V}{v:V}(hp:¬ K p)(hs:sub cells 12 1=some [v])(bs:List Blk)(lo:Nat)(hg:ai bs p=some cells)(hv:IdRow K bs 5 v) :
 ∃ bs' lo',Cd E TDz nE (.loop [1,2,6] rH) [(1,.d (.slice true [])),(2,.ptr p 0),(6,.d (i64 ((0:Nat):Int)))] ⟨bs,lo⟩=some (.exit 4,[(1,.d (.slice true []))],⟨bs',lo'⟩)/\Keeps K bs bs':=by
 obtain ⟨nl,rfl⟩ | ⟨b,n,cap,cs,hL,rfl,hn,hb,hi⟩:=hv
 . refine ⟨bs,lo,?_,Keeps.refl⟩;rw [aF];simp [rH,hg,hs]
 . obtain ⟨bs',lo',h1,h2,h3,h4⟩:=qb (E:=E) (T:=TDz) (val:=nE) (keep:=[1,2,6]) (body:=rH) n (λi=>[(1,.d (.slice true [])),(2,.ptr p 0),(6,.d (i64 i))]) (λi bs'=>Keeps K bs bs'/\(∀ x,x≠b->bs'[x]?=bs[x]?)/\∃ cs',ai bs' b=some cs'/\Idc 5 n cs') (.exit 4,[(1,.d (.slice true []))])
    (by
      intro i hlt bs1 lo1 ⟨hk,hx,cs1,hc1,hi1⟩;obtain ⟨x,hxx⟩:=hi1 i hlt;have hlen:=(bw.1 hxx).1;obtain ⟨cs2,q1,q2,q3⟩:=GU (y:=.d (u64 (IntKind.wrap .u64 (x+1)))) hlen;have hgp:=hk.get hp hg;have hsx:=BX hxx;have hw:=ay hlt hn;have h0:((i:Int)<n):=by omega
      have hix:∀ hp,cZ none 5 (.row b 0 n cap 5) (.d (.int .i64 i)) hp=some (.ptr b (i * 5),hp):=λhp=>by
       simp only [cZ];rw [if_pos ⟨by omega,by omega,trivial⟩];simp
      refine ⟨bs1.set b (.cells cs2),min lo1 b,⟨hk.trans (Keeps.set hL hc1 q2),λy hy=>by rw [ac (Ne.symm hy),hx y hy],cs2,aN hc1,hi1.put q3⟩,λW=>?_⟩;simp [rH,hgp,hs,hix,hc1,hsx,q1,h0,hw,-qC,-qD])
    (by
      intro bs1 lo1 ⟨hk,hx,cs1,hc1,hi1⟩ W;have hgp:=hk.get hp hg;simp [rH,hgp,hs])
    bs lo ⟨Keeps.refl,λ_ _=>rfl,cs,hb,hi⟩
   exact ⟨bs',lo',h1,h2⟩
theorem S30 {L0:Nat}{tag:Nat->Nat}{bs:List Blk}{x:Idx}{a w1 w2 w3 w4 w5:V}(S:IdxM L0 tag bs x a w1 w2 w3 w4 w5)(hL:L0<=bs.length)(h1:x.addrs.l.length<2 ^ 62)(h2:x.view.pods.l.length<2 ^ 62)(h3:x.view.policies.l.length<2 ^ 62) :
 ∃ bs',∃ F:Nat->Nat,(∀ lo,Sm E TDz nE 17 [.agg (aD x a w1 w2 w3 w4 w5),.d (.slice true [])] ⟨bs,lo⟩=some (.tup [],⟨bs',F lo⟩))/\∀ z,z<L0->bs'[z]?=bs[z]?:=by
 have r0:=S.r0.uRow h1;have r2:=S.vw.r2.idRow (λ_=>rfl) (by decide) (λx=>⟨x.uid,rfl⟩) h2;have r5:=S.vw.r5.idRow (f:=oc) (λ_=>rfl) (by decide) (λx=>⟨x.id,rfl⟩) h3;have hg:ai (bs++[.cells (aD x a w1 w2 w3 w4 w5)]) bs.length=some (aD x a w1 w2 w3 w4 w5):=by simp
 have nn:∀ i,¬ Tg L0 bs.length tag i bs.length:=λi h=>by have:=h.2.1; omega
 have la:∀ z,z<bs.length->(bs++[Blk.cells (aD x a w1 w2 w3 w4 w5)])[z]?=bs[z]?:=λz hz=>al hz;have st:∀ {i j:Nat} {b b':List Blk},i≠j->Keeps (Tg L0 bs.length tag i) b b'->∀ z,Tg L0 bs.length tag j z->b'[z]?=b[z]?:=λhij k z h1=>k.1 z λh2=>hij (h2.2.2.symm.trans h1.2.2);obtain ⟨b0,lo0,a0,k0⟩:=PL (E:=E) (nn 2) rfl _ bs.length hg (r0.on λz h1=>la z (by have:=h1.2.1; omega));have g0:=k0.get (nn 2) hg;obtain ⟨b1,lo1,a1,k1⟩:=PM (E:=E) (nn 4) rfl b0 lo0 g0 (r2.on λz h1=>(st (by decide) k0 z h1).trans (la z (by have:=h1.2.1; omega)));have g1:=k1.get (nn 4) g0;obtain ⟨b2,lo2,a2,k2⟩:=PN (E:=E) (nn 7) rfl b1 lo1 g1 (r5.on λz h1=>(st (by decide) k1 z h1).trans ((st (by decide) k0 z h1).trans (la z (by have:=h1.2.1; omega))));have hold:∀ z,z<L0->b2[z]?=bs[z]?:=λz hz=>by
  rw [k2.1 z (λh=>by have:=h.1; omega),k1.1 z (λh=>by have:=h.1; omega),k0.1 z (λh=>by have:=h.1; omega),al (by omega)]
 have hB:Bd E TDz nE q30 [.agg (aD x a w1 w2 w3 w4 w5),.d (.slice true [])] ⟨bs,bs.length⟩=some (.tup [],⟨b2,lo2⟩):=by
  simp at a0 a1 a2;simp [aa,q30];rw [au];simp [a0];rw [au];simp [a1];rw [au];simp [a2];rw [au,aF];simp [G9,bH]
 by_cases hc:bs.length<=lo2/\(V.tup []).under bs.length=true
 . refine ⟨bs,id,λlo=>?_,λ_ _=>rfl⟩;rw [aT Ri rfl];show dY ⟨bs,lo⟩ (Bd E TDz nE q30 _ ⟨bs,bs.length⟩)=_;rw [hB,eu,if_pos hc];rfl
 . refine ⟨b2,λlo=>min lo lo2,λlo=>?_,hold⟩;rw [aT Ri rfl];show dY ⟨bs,lo⟩ (Bd E TDz nE q30 _ ⟨bs,bs.length⟩)=_;rw [hB,eu,if_neg hc]
end
set_option maxHeartbeats 2000000
section
structure WholeP (p:Psh):Prop where
 d:p.delta.ok
 w:∀ q∈p.delta.policies.l,q.wf big
 l1:p.delta.pods.l.length<big
 l2:p.delta.services.l.length<big
 l3:p.delta.bound.l.length<big
 l4:p.delta.policies.l.length<big
structure H4 (E:Calls'):Prop where
 h16:∀ h,E 6 [] h=some (bl true,h)
 h17:∀ d:Dlt,d.ok->∃ b:Bool,∀ h,E 5 [d.v] h=some (bl b,h)
 h18:∀ x,Whole x->∀ p:Psh,WholeP p->∀ bs,∃ bs' t a w1 w2 w3 w4 w5 r,∃ F:Nat->Nat,(∀ lo,E 8 [x.v,ag p.c] ⟨bs,lo⟩=some (.tup [.agg (aD (bG x p).1 a w1 w2 w3 w4 w5),r],⟨bs',F lo⟩))/\bs.length<=bs'.length/\(∀ z,z<bs.length->bs'[z]?=bs[z]?)/\IdxM bs.length t bs' (bG x p).1 a w1 w2 w3 w4 w5/\RowG (fD bs bs') bs' 4 ((bG x p).2.map λk=>k.c.map V.d) r
 h20:∀ x:Idx,x.view.ok->∃ b:Bool,∀ h,E 4 [x.v] h=some (bl b,h)
 h21:∀ x:Idx,short x.addrs->x.view.ok->∀ h,E 7 [x.v] h=some (x.own19.v,h)
 h22:∀ x,Whole x->∀ p:Psh,WholeP p->∀ h,E 9 [x.v,ag p.c] h=some (.tup [(aS x p).1.v,.d (Sl.d Ack.c ⟨(aS x p).2.isEmpty,(aS x p).2⟩)],h)
 h23:∀ a b:Sl Ack,short a->a.l=b.l->∀ w h,frz h w=some (.d (a.d Ack.c))->E 10 [w,.d (b.d Ack.c)] h=some (bl true,h)
 h24:∀ a b:Idx,short a.addrs->a.view.ok->Ism a b->∀ w h,frz h w=some a.v->E 11 [w,b.v] h=some (bl true,h)
 h25:∀ x:Idx,x.view.ok->∀ n w h,frz h w=some x.v->E 12 [w,.d (u32 n)] h=some ((mi x n).v,h)
 h26:∀ x:Idx,x.view.ok->∀ n h,E 13 [x.v,.d (u32 n)] h=some ((mi x n).v,h)
 h27:∀ x:Idx,Fits x->∀ n L0 tag bs a w1 w2 w3 w4 w5,IdxM L0 tag bs x a w1 w2 w3 w4 w5->∃ r bs',∃ F:Nat->Nat,(∀ lo,E 14 [.agg (aD x a w1 w2 w3 w4 w5),.d (u64 n)] ⟨bs,lo⟩=some (.tup (match fA x n with | some p=>[ag p.c,r,bl true] | none=>[ag pod0.c,.d (.slice true []),bl false]),⟨bs',F lo⟩))/\bs.length<=bs'.length/\(∀ z,z<bs.length->bs'[z]?=bs[z]?) ∧
  ∀ p,fA x n=some p->RowG (fD bs bs') bs' 5 ((x.view.policies.l.filter λq=>cB q p.ns p.service).map λq=>q.own.own.c.map V.d) r
 h28:∀ x:Idx,x.view.ok->∀ n h,E 15 [x.v,.d (u64 n)] h=some (.tup (match fA x n with | some p=>[p.v,.d (Sl.d Pol.c ⟨(mo x.view p).isEmpty,mo x.view p⟩),bl true] | none=>[pod0.v,.d (.slice true []),bl false]),h)
 h29:∀ x y:Pol,x.ok->∀ h,E 16 [ag x.c,ag y.c] h=some (bl (x.same y),h)
 h30:∀ (x:Idx) L0 tag bs a w1 w2 w3 w4 w5,IdxM L0 tag bs x a w1 w2 w3 w4 w5->L0<=bs.length->Fits x->∃ bs',∃ F:Nat->Nat,(∀ lo,E 17 [.agg (aD x a w1 w2 w3 w4 w5),.d (.slice true [])] ⟨bs,lo⟩=some (.tup [],⟨bs',F lo⟩))/\∀ z,z<L0->bs'[z]?=bs[z]?
def VB:List (Nat×QF):=[(3,q4)]
def TL4:FuncId->Option QF:=iN VB
def nZ (f:FuncId):Bool:=Nat.beq 3 f
theorem tl4:TL4 3=some q4:=by kernel_rfl
theorem vl4:nZ 3=true:=by kernel_rfl
theorem Ky {A rest:List V}{o k:Nat}(h:o+k<=A.length):sub (A++rest) o k=sub A o k:=by
 rw [eT,eT,if_pos (by rw [am]; omega),if_pos h,List.drop_append_of_le_length (by omega),List.take_append_of_le_length (by rw [List.length_drop]; omega)]
variable {E:Calls'}
theorem X4 (H:H4 E){l:List Pol}{b:Sl Pol}(hb:short b)(hl:l.map Pol.nf=b.l.map Pol.nf)(hok:∀ p∈l,p.own.own.ok){bs:List Blk}{K:Nat->Prop}{r:V}(hr:RowG K bs 5 (l.map λq=>q.own.own.c.map V.d) r){t4 t9 t10:V}(lo:Nat) :
 Cd E TL4 nZ (.loop [4,9,10,15,18,20] wH) [(4,t4),(9,t9),(10,t10),(15,r),(18,.d (b.d Pol.c)),(20,.d (i64 ((0:Nat):Int)))] ⟨bs,lo⟩=some (.exit 0,[(4,t4),(9,t9),(10,t10)],⟨bs,lo⟩):=by
 have hn:=congrArg List.length hl;simp only [bx] at hn;have hlt:l.length<2 ^ 62:=by rw [hn]; exact hb.lt
 have n29:=λx y hx h=>(aU (E:=E) (T:=TL4) (val:=nZ) (f:=16) (by kernel_rfl)).trans (H.h29 x y hx h);have hu:=hr.okv;obtain ⟨h1,rfl⟩ | ⟨B,cap,rest,h1,rfl,h3⟩:=hr
 . have hl0:l=[]:=by simpa using h1
   subst hl0;rw [aF];simp [wH]
 . simp only [bx] at hu ⊢;have key:=bR (E:=E) (T:=TL4) (val:=nZ) (keep:=[4,9,10,15,18,20]) (body:=wH) l (λ_=>true) (λi=>[(4,t4),(9,t9),(10,t10),(15,.row B 0 l.length cap 5),(18,.d (b.d Pol.c)),(20,.d (i64 i))]) ⟨bs,lo⟩ (.ret,[(8,bl false)],⟨bs,lo⟩) (.exit 0,[(4,t4),(9,t9),(10,t10)],⟨bs,lo⟩) (λi p hx hi W=>?_) (λW=>?_)
   . have ht:(l.all λ_=>true)=true:=cj.2 λ_ _=>rfl;rw [ht] at key;simpa using key
   . have hib:i<b.l.length:=by omega
     have hy:=ab hib;generalize b.l[i]=q at hy;have hs:=Ko hl hx hy;have hso:p.own.own.same q=true:=Pol.same_iff.2 (by rw [Pol.own_nf,Pol.own_nf]; exact Pol.same_iff.1 hs);have n1:=n29 p.own.own q (hok p (cb hx));rw [hso] at n1;have hsy:=λh=>av (z:=5) h hy (cells:=Pol.c) rfl;have hw:=ay hi hlt;have h0:((i:Int)<l.length):=by omega
     have hix:∀ hp,cZ none 5 (.row B 0 l.length cap 5) (.d (.int .i64 i)) hp=some (.ptr B (i * 5),hp):=λhp=>by
      simp only [cZ];rw [if_pos ⟨by omega,by omega,trivial⟩];simp
     have hsub:sub (Vr.flat (l.map λq=>q.own.own.c.map V.d)++rest) (i * 5) 5=some (p.own.own.c.map V.d):=by
      have e1:Vr.flat (l.map λq=>q.own.own.c.map V.d)=flat (l.map λq:Pol=>q.own.own.c):=(wo _ _).symm;have el:(flat (l.map λq:Pol=>q.own.own.c)).length=l.length * 5:=bQ (cells:=λq:Pol=>q.own.own.c) (z:=5) (λ_=>rfl) l;have h5:=qQ (z:=5) (es:=l.map λq:Pol=>q.own.own.c) (i:=i) (e:=p.own.own.c) (by intro e he; obtain ⟨x,_,rfl⟩:=b9.1 he; rfl) (by rw [List.getElem?_map,hx]; rfl) (o:=0) (k:=5) (by decide);rw [e1,Ky (by rw [el]; have:(i+1) * 5<=l.length * 5:=Nat.mul_le_mul_right 5 hi; omega)];exact h5
     generalize Vr.flat (l.map λq=>q.own.own.c.map V.d)++rest=C at *;simp [wH,hix,h3,hsub,hsy,h0,hw,n1,hu,az,ae,aL,bu,Tr.mute,aA]
   . simp [wH,hu]
theorem RowG.frzD {α:Type}{f:α->List D}{l:List α}{K:Nat->Prop}{bs:List Blk}{z:Nat}{v:V}(h:RowG K bs z (l.map λx=>(f x).map V.d) v)(hz:∀ x,(f x).length=z)(m:List Blk)(lo:Nat)(hm:∀ x,x<bs.length->m[x]?=bs[x]?):frz ⟨m,lo⟩ v=some (.d (.slice (gu v) (l.map f))):=by
 obtain ⟨h1,rfl⟩ | ⟨b,cap,rest,h1,rfl,h3⟩:=h
 . have:l=[]:=by simpa using h1
   subst this;rfl
 . have h4:ai m b=some (flat (l.map f)++rest):=by rw [wo]; exact aM (hm b (aJ h3)) h3
   have:=eH (h:=⟨m,lo⟩) (k:=7) (b:=b) (n:=l.length) (cap:=cap) (z:=z) (es:=l.map f) (rest:=rest) (by intro e he; obtain ⟨x,_,rfl⟩:=b9.1 he; exact hz x) (by simp) h4;simp only [bx] at this ⊢;simp [frz,bZ,this,gu]
theorem EP (x:Idx)(p:Psh):(bG x p).2.length<=1:=by
 unfold bG;split
 . simp
 split
 . simp
 split<;>simp
theorem S4 (H:H4 E){x:Idx}(hx:Whole x){p:Psh}(hp:WholeP p)(n k:Int)(h:Hp):Sm E TL4 nZ 3 [x.v,ag p.c,.d (u32 n),.d (u64 k)] h=some (bl true,h):=by
 obtain ⟨b20,n20⟩:=H.h20 x hx.view;obtain ⟨b17,n17⟩:=H.h17 p.delta hp.d;have X:∀ f,TL4 f=none->∀ args h,Sm E TL4 nZ f args h=E f args h:=λf hf args h=>aU hf;have c20:=λh=>(X 4 (by kernel_rfl) _ _).trans (n20 h);have c17:=λh=>(X 5 (by kernel_rfl) _ _).trans (n17 h);have c16:=λh=>(X 6 (by kernel_rfl) _ _).trans (H.h16 h);have exv:(x.v:V)=ag x.c:=rfl;have epv:(p.delta.v:V)=ag p.delta.c:=rfl;rw [exv] at c20;rw [epv] at c17;have px:sub (p.c.map V.d) 4 10=some (p.delta.c.map V.d):=rfl;have p0:sub (p.c.map V.d) 0 14=some (p.c.map V.d):=rfl;rw [aQ tl4 vl4];cases b20 with
 | true=>simp [aa,q4,c20,c16,jX,aA]
 | false =>
  cases b17 with
  | true=>simp [aa,q4,c20,c17,c16,jX,px,aA]
  | false =>
   have hw:=jy hx;have hyf:=ES hx hp.d hp.w;have hy2:=vM hw hp.d hp.w;have c21:=λh=>(X 7 (by kernel_rfl) _ _).trans (H.h21 x hx.addrs hx.view h);have c22:=λh=>(X 9 (by kernel_rfl) _ _).trans (H.h22 x.own19 hw p hp h);obtain ⟨m,t,a,w1,w2,w3,w4,w5,r,F,a18,le,old,S,R⟩:=H.h18 x hx p hp [.cells (x.c.map .d),.cells (p.c.map .d),.cells (x.own19.c.map .d)];have c18:=λlo=>(X 8 (by kernel_rfl) _ _).trans (a18 lo);obtain ⟨ism,iac⟩:=take_same x p a w1 w2 w3 w4 w5;generalize hy:(bG x p).1=y at *;generalize hk:(bG x p).2=acks at *;generalize hyd:(aS x.own19 p).1=yd at *;generalize hkd:(aS x.own19 p).2=acksd at *;subst iac;have fz1:=λ(ys:List Blk) lo=>S.fz (m++ys) lo λz _ hz=>al hz;have frR:=λ(ys:List Blk) lo=>R.frzD (f:=Ack.c) (λ_=>rfl) (m++ys) lo λz hz=>al hz;obtain ⟨vok,aok⟩:=S.view_ok hyf;have hack:acks.length<=1:=by rw [← hk]; exact EP x p
   have c23:=λ(ys:List Blk) lo=>(X 10 (by kernel_rfl) _ _).trans (H.h23 ⟨gu r,acks⟩ ⟨acks.isEmpty,acks⟩ ⟨cf hack (by decide),λh=>R.short h⟩ rfl r ⟨m++ys,lo⟩ (frR ys lo));have c24:=λ(ys:List Blk) lo=>(X 11 (by kernel_rfl) _ _).trans (H.h24 _ yd aok vok ism _ ⟨m++ys,lo⟩ (fz1 ys lo));have c24x:=λh=>(X 11 (by kernel_rfl) _ _).trans (H.h24 x x.own19 hx.addrs hx.view (Cw x) (ag x.c) h oq);have c25:=λ(ys:List Blk) lo=>(X 12 (by kernel_rfl) _ _).trans (H.h25 _ vok n _ ⟨m++ys,lo⟩ (fz1 ys lo));have c26:=λh=>(X 13 (by kernel_rfl) _ _).trans (H.h26 yd hy2.view n h);rw [ism.look n] at c25;have c25x:=λh=>(X 12 (by kernel_rfl) _ _).trans (H.h25 x hx.view n (ag x.c) h oq);have c26x:=λh=>(X 13 (by kernel_rfl) _ _).trans (H.h26 x.own19 hw.view n h);rw [(Cw x).look n] at c25x;simp only [cg,ch,Nat.zero_add] at le old S;have S1:IdxM 3 t (m++[.cells (aD y a w1 w2 w3 w4 w5),.cells (yd.c.map .d)]) y a w1 w2 w3 w4 w5:=S.move (bp _) (by simp) λz h1 h2 h3=>⟨al h2,rfl⟩;obtain ⟨u,m2,F2,a27,le2,old2,R2⟩:=H.h27 y hyf k 3 t _ a w1 w2 w3 w4 w5 S1;have c27:=λlo=>(X 14 (by kernel_rfl) _ _).trans (a27 lo);have c28:=λh=>(X 15 (by kernel_rfl) _ _).trans (H.h28 yd hy2.view k h);have hmine:fA yd k=fA y k:=(ism.mine k).symm;rw [hmine] at c28;simp only [am,cg,ch,Nat.zero_add] at le2 old2
   have g0:ai m 0=some (x.c.map .d):=aM (old 0 (by omega)) rfl;have g1:ai m 1=some (p.c.map .d):=aM (old 1 (by omega)) rfl;have g2:ai m 2=some (x.own19.c.map .d):=aM (old 2 (by omega)) rfl;have k0:=λys=>aj (ys:=ys) g0;have k1:=λys=>aj (ys:=ys) g1;have k2:=λys=>aj (ys:=ys) g2;have kA:∀ ys,ai (m++.cells (aD y a w1 w2 w3 w4 w5)::ys) m.length=some (aD y a w1 w2 w3 w4 w5):=λys=>by rw [cO]; rfl
   have kB:∀ A ys,ai (m++.cells A::.cells (yd.c.map .d)::ys) (m.length+1)=some (yd.c.map .d):=λA ys=>by rw [bX]; rfl
   have q0:ai m2 0=some (x.c.map .d):=aM (old2 0 (by omega)) (k0 _);have q2:ai m2 2=some (x.own19.c.map .d):=aM (old2 2 (by omega)) (k2 _);have qA:ai m2 m.length=some (aD y a w1 w2 w3 w4 w5):=aM (old2 _ (by omega)) (kA _);have qB:ai m2 (m.length+1)=some (yd.c.map .d):=aM (old2 _ (by omega)) (kB _ _);have ev:∀ z:Idx,(z.v:V)=ag z.c:=λ_=>rfl;have efn:∀ z:Fnd,(z.v:V)=ag z.c:=λ_=>rfl;simp only [ev,efn] at c21 c22 c24 c24x c25 c26 c25x c26x c28 c18;have Rn:=R.okv;have hne:¬ m=[]:=by rintro rfl; simp at le
   have sp14:sub (p.c.map V.d) 0 14=some (p.c.map V.d):=rfl;have key:∃ (P:Pod) (bb:Bool) (u':V) (s:Sl Pol) (l:List Pol),(∀ lo,Sm E TL4 nZ 14 [.agg (aD y a w1 w2 w3 w4 w5),.d (u64 k)] ⟨m++[.cells (aD y a w1 w2 w3 w4 w5),.cells (yd.c.map .d)],lo⟩=some (.tup [ag P.c,u',bl bb],⟨m2,F2 lo⟩))/\(∀ h,Sm E TL4 nZ 15 [ag yd.c,.d (u64 k)] h=some (.tup [ag P.c,.d (s.d Pol.c),bl bb],h)) ∧
    short s/\l.map Pol.nf=s.l.map Pol.nf/\(∀ p∈l,p.own.own.ok)/\RowG (λz=>z<m2.length) m2 5 (l.map λq=>q.own.own.c.map V.d) u':=by
    cases hmi:fA y k with
    | none =>
     simp only [hmi] at c27 c28;exact ⟨pod0,false,.d (.slice true []),⟨true,[]⟩,[],c27,c28,⟨Nat.zero_le _,λ_=>rfl⟩,rfl,(λp hp=>by cases hp),Or.inl ⟨rfl,rfl⟩⟩
    | some q =>
     have hR:=R2 q hmi;simp only [hmi] at c27 c28;have hnf:y.view.policies.l.map Pol.nf=yd.view.policies.l.map Pol.nf:=by
      have h1:=ism.2.2.2.2.2.2.2.2.lists.2.2.2.2;have h2:(AO y a w1 w2 w3 w4 w5).view.policies.l.map Pol.nf=y.view.policies.l.map Pol.nf:=fH _;rw [← h2]; exact h1
     have hfl:=List.length_filter_le (λp:Pol=>cB p q.ns q.service) yd.view.policies.l;refine ⟨q,true,u,⟨(mo yd.view q).isEmpty,mo yd.view q⟩,y.view.policies.l.filter λp=>cB p q.ns q.service,c27,c28,⟨cf hfl hy2.view.2.2.2.2.1.1,λh=>by simpa using h⟩,Dy (λp=>cB p q.ns q.service) (λ_=>rfl) hnf,λp hp=>(Pol.own_wf (Pol.own_wf (hyf.w p (List.mem_filter.1 hp).1))).fits,hR.on λz hz=>⟨hz.2,rfl⟩⟩
   obtain ⟨P,bb,u',sp,lp,c27',c28',ssp,hlp,okp,R3⟩:=key;have S2:IdxM 3 t (m2++[.cells (P.c.map .d),.cells (P.c.map .d)]) y a w1 w2 w3 w4 w5:=S1.move (bp _) (by simp; omega) λz h1 h2 h3=>by
    simp only [am,cg,ch] at h2;exact ⟨by rw [al (by omega),old2 z (by omega)],rfl⟩
   obtain ⟨m4,F4,a30,o30⟩:=H.h30 y 3 t _ a w1 w2 w3 w4 w5 S2 (by simp; omega) hyf;have c30:=λlo=>(X 17 (by kernel_rfl) _ _).trans (a30 lo);have z0:ai m4 0=some (x.c.map .d):=aM (o30 0 (by omega)) (aj q0);have z2:ai m4 2=some (x.own19.c.map .d):=aM (o30 2 (by omega)) (aj q2);have qA':=λys=>aj (ys:=ys) qA;have qB':=λys=>aj (ys:=ys) qB;have pA:∀ A ys,ai (m2++.cells A::ys) m2.length=some A:=λA ys=>by rw [cO]; rfl
   have pB:∀ A B ys,ai (m2++.cells A::.cells B::ys) (m2.length+1)=some B:=λA B ys=>by rw [bX]; rfl
   have hz7:put [V.d (.int .u64 0),.d (.str ⟨#[]⟩),.d (.str ⟨#[]⟩),.d (.int .i64 0),.d (.int .u32 0),.d (.int .i64 0),.d (.int .u64 0)] 0 (P.c.map V.d)=some (P.c.map V.d):=rfl;have lop:=λlo t4 t9 t10=>X4 H ssp hlp okp (R3.on (K':=λ_=>True) (bs':=m2++[.cells (P.c.map .d),.cells (P.c.map .d)]) λz hz=>⟨trivial,al hz⟩) (t4:=t4) (t9:=t9) (t10:=t10) lo;have ez:((0:Nat):Int)=0:=rfl;simp only [ez] at lop;have hu:=R3.okv;have hnl:=congrArg List.length hlp;simp only [bx] at hnl;have hlen:(u'=.d (.slice true [])/\sp.l.length=0)\/∃ B cap,u'=.row B 0 sp.l.length cap 5:=by
    obtain ⟨h1,h2⟩ | ⟨B,cap,rest,_,h2,_⟩:=R3
    . exact .inl ⟨h2,by
       have:lp=[]:=by simpa using h1
       rw [← hnl,this]; rfl⟩
    . exact .inr ⟨B,cap,by rw [h2]; simp [hnl]⟩
   simp [aa,q4,c20,c17,c21,c18,c22,c23,c24,c25,c26,c25x,c26x,jX,sp14,px,iM,bU,bI,fU,iL,k0,k1,k2,kA,kB,Rn,az,ae,aL,bu,Tr.mute,aA];have hpe:P.eqB P=true:=by simp [Pod.eqB]
   simp [c27',c28',qA',qB',pA,pB,hz7,hu,hpe,bU,bI,jX];obtain ⟨rfl,hl0⟩ | ⟨B,cap,rfl⟩:=hlen
   . simp [hl0];rw [au];simp [lop,qA',bI,c30,z0,z2,jX,c24x,c16,aA]
   . simp;rw [au];simp [lop,qA',bI,c30,z0,z2,jX,c24x,c16,aA]
end
section
@[simp] theorem Vw.own_epoch {v:Vw}:v.own.epoch=v.epoch:=(rfl)
section
variable {E:Calls'}
theorem I79 (d:Dlt)(h:Hp):Sm E TI bn 19 [d.v] h=some (d.vw.v,h):=by
 rw [aQ i79 j79];simp +decide [aa,q79,aB]; rfl
end
end
